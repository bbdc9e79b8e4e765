/- Texts that belong together, joined. -/
import Derived.Test.YtppihkneeolomaaDoorSAm6
import Derived.Test.YtppihkneeolomaaDoorSAm5
import Derived.Test.YtppihkneeolomaaDoorSANewWalk
import Derived.Test.YtppihkneeolomaaDoorSAm1
import Derived.Test.YtppihkneeolomaaDoorSADrain
import Derived.Test.YtppihkneeolomaaDoorSAm2
import Derived.Deep.LoopGhost
import Derived.Test.YtppihkneeolomaaDoorSAm4
import Derived.Deep.QuietTactic
import Derived.BigQuiet
import Derived.Outline
set_option linter.unusedVariables false
set_option linter.unusedSimpArgs false
set_option linter.unusedSectionVars false
/- package client: a thread's list is flushed. -/
section
namespace Go.Proofs.YtppihkneeolomaaDoor
open Go.RowKit Qs Qh
variable {N0 K tn f : Nat} {big : Prop} {nx : Int} {w w1 w2 : World} {b k : Nat} {v v1 v2 : Value} {l : List Instr}
set_option maxHeartbeats 16000000 in
theorem flush_ok (HF : FreshH N0 big f (tn : Nat) nx K) (hT : big → lowT N0) (h1 : 1 ≤ f) (h4 : f ≤ 4) (htn : tn < 6) (M : MkA N0 big f (tn : Nat) nx w b v l k) (hk : k + 2 < K) (hK : K ≤ 120) (hl : l.length ≤ 90000) :
    Calls Tryd.prog 82 #[.pointer (some ⟨b, 0, none⟩)] w fun e w' => e = .returned (.tuple #[]) ∧ ∃ v', MkA N0 big f (tn : Nat) nx w' b v' (l ++ Qc.flushBlk f k tn nx) (k + 3) ∧ MkStep w b v w' v' := by
  have HM := Lib.hid M
  have hp := part4_ok HF hT h1 h4 M (by omega) hK (by omega)
  have Hp := Lib.hid hp
  have hlen : (preC (Qu.labN (k + 1)) (gcode f 4)).length ≤ 70 := by unfold preC; rw [List.length_map]; exact gcode_len h4 (by decide)
  have hf2 := fun w v l (M : MkA N0 big f (tn : Nat) nx w b v l (k + 1)) => HF w b v l (k + 1) (by omega) M
  have hf3 := fun w v l (M : MkA N0 big f (tn : Nat) nx w b v l (k + 1 + 1)) => HF w b v l (k + 1 + 1) (by omega) M
  have Hf2 := Lib.hid hf2
  have Hf3 := Lib.hid hf3
  unfold Qc.flushBlk Qc.part Qc.flushTail
  rw [show k + 2 = k + 1 + 1 from rfl, show k + 3 = k + 1 + 1 + 1 from rfl]
  generalize hpc : preC (Qu.labN (k + 1)) (gcode f 4) = pc at *
  generalize Qu.labN (k + 1 + 1) = la at *
  generalize Qu.labN (k + 1 + 1 + 1) = lb at *
  clear M HF hp hf2 hf3 hpc
  go_enter Tryd.func82, Tryd.ntmps82
  go_wp2_with fail
  refine Hp.out.mono ?_
  rintro e w1 ⟨rfl, v1, M1, S1⟩
  have HM1 := Lib.hid M1
  have HS1 := Lib.hid S1
  clear M1 S1
  go_wp2_with fail
  refine (Hf2.out _ _ _ HM1.out).mono ?_
  rintro e w2 ⟨rfl, M2, S2⟩
  have HM2 := Lib.hid M2
  have HS2 := Lib.hid (HS1.out.trans HM.out.lt S2)
  clear M2 S2 HS1 HM1
  go_wp2_with fail
  refine (Hf3.out _ _ _ HM2.out).mono ?_
  rintro e w3 ⟨rfl, M3, S3⟩
  have HM3 := Lib.hid M3
  have HS3 := Lib.hid (HS2.out.trans HM.out.lt S3)
  clear M3 S3 HS2 HM2
  go_wp2_with fail
  refine (mklist_ok hT htn HM3.out (by simp; omega)).mono ?_
  rintro e w4 ⟨rfl, v4, M4, S4⟩
  have HM4 := Lib.hid M4
  have HS4 := Lib.hid (HS3.out.trans HM.out.lt S4)
  have Hc3 := Lib.hid M4.c3
  have HC := Lib.hid (Chain.start M4.m.emit)
  clear M4 S4 HS3 HM3
  go_wp2
  refine wp_region_held_drew (S := fun W => W.cell? ⟨b, 3, none⟩ = some (.int .i64 nx)) (by kernel_rfl) ((Mod.refl noF _).drew.cell Hc3.out (fun e => e)) (fun hHeld => ?_)
  refine wpAnyH_take (i := 0) (oi := ?oRx0) (v := ?vRx0) ?qRx0 (by kernel_rfl) ?fRx0 ?gRx0 ?pRx0 ?uRx0 (by assumption) ?rRx0
  case qRx0 => (rw [List.getElem?_toArray]; rfl)
  case fRx0 => kernel_rfl
  case gRx0 => kernel_rfl
  case pRx0 => exact (fun _ _ _ h => h)
  case uRx0 => (refine Or.inl ⟨by rfl, ?_⟩; intro w hSw; (try dsimp only at hSw); go_simp; (try rw [if_neg (by omega)]); try with_reducible rfl)
  try simp only [Act.put, List.setIfInBounds_toArray, List.set_cons_zero, List.set_cons_succ]
  refine wpAnyH_take (i := 1) (oi := ?oRx1) (v := ?vRx1) ?qRx1 (by kernel_rfl) ?fRx1 ?gRx1 ?pRx1 ?uRx1 (by assumption) ?rRx1
  case qRx1 => (rw [List.getElem?_toArray]; rfl)
  case fRx1 => kernel_rfl
  case gRx1 => kernel_rfl
  case pRx1 => exact (fun _ _ _ h => h)
  case uRx1 => (refine Or.inl ⟨by rfl, ?_⟩; intro w hSw; (try dsimp only at hSw); go_simp; (try rw [if_neg (by omega)]); try with_reducible rfl)
  try simp only [Act.put, List.setIfInBounds_toArray, List.set_cons_zero, List.set_cons_succ]
  refine wpAnyH_take (i := 2) (oi := ?oRx2) (v := ?vRx2) ?qRx2 (by kernel_rfl) ?fRx2 ?gRx2 ?pRx2 ?uRx2 (by assumption) ?rRx2
  case qRx2 => (rw [List.getElem?_toArray]; rfl)
  case fRx2 => kernel_rfl
  case gRx2 => kernel_rfl
  case pRx2 => exact (fun _ _ _ h => h)
  case uRx2 => (refine Or.inl ⟨by rfl, ?_⟩; intro w hSw; (try dsimp only at hSw); go_simp; (try rw [if_neg (by omega)]); try with_reducible rfl)
  try simp only [Act.put, List.setIfInBounds_toArray, List.set_cons_zero, List.set_cons_succ]
  refine wpAnyH_take (i := 3) (oi := ?oRx3) (v := ?vRx3) ?qRx3 (by kernel_rfl) ?fRx3 ?gRx3 ?pRx3 ?uRx3 (by assumption) ?rRx3
  case qRx3 => (rw [List.getElem?_toArray]; rfl)
  case fRx3 => kernel_rfl
  case gRx3 => kernel_rfl
  case pRx3 => exact (fun _ _ _ h => h)
  case uRx3 => (refine Or.inl ⟨by rfl, ?_⟩; intro w hSw; (try dsimp only at hSw); go_simp; (try rw [if_neg (by omega)]); try with_reducible rfl)
  try simp only [Act.put, List.setIfInBounds_toArray, List.set_cons_zero, List.set_cons_succ]
  refine wpAnyH_take (i := 5) (oi := ?oRx5) (v := ?vRx5) ?qRx5 (by kernel_rfl) ?fRx5 ?gRx5 ?pRx5 ?uRx5 (by assumption) ?rRx5
  case qRx5 => (rw [List.getElem?_toArray]; rfl)
  case fRx5 => kernel_rfl
  case gRx5 => kernel_rfl
  case pRx5 => exact (fun _ _ _ h => h)
  case uRx5 => (refine Or.inl ⟨by rfl, ?_⟩; intro w hSw; (try dsimp only at hSw); go_simp; (try rw [if_neg (by omega)]); try with_reducible rfl)
  try simp only [Act.put, List.setIfInBounds_toArray, List.set_cons_zero, List.set_cons_succ]
  refine wpAnyH_take (i := 8) (oi := ?oRx8) (v := ?vRx8) ?qRx8 (by kernel_rfl) ?fRx8 ?gRx8 ?pRx8 ?uRx8 (by assumption) ?rRx8
  case qRx8 => (rw [List.getElem?_toArray]; rfl)
  case fRx8 => kernel_rfl
  case gRx8 => kernel_rfl
  case pRx8 => exact (fun _ _ _ h => h)
  case uRx8 => (refine Or.inl ⟨by rfl, ?_⟩; intro w hSw; (try dsimp only at hSw); go_simp; (try rw [if_neg (by omega)]); try with_reducible rfl)
  try simp only [Act.put, List.setIfInBounds_toArray, List.set_cons_zero, List.set_cons_succ]
  refine wpAnyH_take (i := 11) (oi := ?oRx11) (v := ?vRx11) ?qRx11 (by kernel_rfl) ?fRx11 ?gRx11 ?pRx11 ?uRx11 (by assumption) ?rRx11
  case qRx11 => (rw [List.getElem?_toArray]; rfl)
  case fRx11 => kernel_rfl
  case gRx11 => kernel_rfl
  case pRx11 => exact (fun _ _ _ h => h)
  case uRx11 => (refine Or.inl ⟨by rfl, ?_⟩; intro w hSw; (try dsimp only at hSw); go_simp; (try rw [if_neg (by omega)]); try with_reducible rfl)
  try simp only [Act.put, List.setIfInBounds_toArray, List.set_cons_zero, List.set_cons_succ]
  refine wpAnyH_take (i := 12) (oi := ?oRx12) (v := ?vRx12) ?qRx12 (by kernel_rfl) ?fRx12 ?gRx12 ?pRx12 ?uRx12 (by assumption) ?rRx12
  case qRx12 => (rw [List.getElem?_toArray]; rfl)
  case fRx12 => kernel_rfl
  case gRx12 => kernel_rfl
  case pRx12 => exact (fun _ _ _ h => h)
  case uRx12 => (refine Or.inl ⟨by rfl, ?_⟩; intro w hSw; (try dsimp only at hSw); go_simp; (try rw [if_neg (by omega)]); try with_reducible rfl)
  try simp only [Act.put, List.setIfInBounds_toArray, List.set_cons_zero, List.set_cons_succ]
  refine wpAnyH_take (i := 13) (oi := ?oRx13) (v := ?vRx13) ?qRx13 (by kernel_rfl) ?fRx13 ?gRx13 ?pRx13 ?uRx13 (by assumption) ?rRx13
  case qRx13 => (rw [List.getElem?_toArray]; rfl)
  case fRx13 => kernel_rfl
  case gRx13 => kernel_rfl
  case pRx13 => exact (fun _ _ _ h => h)
  case uRx13 => (refine Or.inl ⟨by rfl, ?_⟩; intro w hSw; (try dsimp only at hSw); go_simp; (try rw [if_neg (by omega)]); try with_reducible rfl)
  try simp only [Act.put, List.setIfInBounds_toArray, List.set_cons_zero, List.set_cons_succ]
  refine wpAnyH_take (i := 14) (oi := ?oRx14) (v := ?vRx14) ?qRx14 (by kernel_rfl) ?fRx14 ?gRx14 ?pRx14 ?uRx14 (by assumption) ?rRx14
  case qRx14 => (rw [List.getElem?_toArray]; rfl)
  case fRx14 => kernel_rfl
  case gRx14 => kernel_rfl
  case pRx14 => exact (fun _ _ _ h => h)
  case uRx14 => (refine Or.inl ⟨by rfl, ?_⟩; intro w hSw; (try dsimp only at hSw); go_simp; (try rw [if_neg (by omega)]); try with_reducible rfl)
  try simp only [Act.put, List.setIfInBounds_toArray, List.set_cons_zero, List.set_cons_succ]
  refine wpAnyH_take (i := 17) (oi := ?oRx17) (v := ?vRx17) ?qRx17 (by kernel_rfl) ?fRx17 ?gRx17 ?pRx17 ?uRx17 (by assumption) ?rRx17
  case qRx17 => (rw [List.getElem?_toArray]; rfl)
  case fRx17 => kernel_rfl
  case gRx17 => kernel_rfl
  case pRx17 => exact (fun _ _ _ h => h)
  case uRx17 => (refine Or.inl ⟨by rfl, ?_⟩; intro w hSw; (try dsimp only at hSw); go_simp; (try rw [if_neg (by omega)]); try with_reducible rfl)
  try simp only [Act.put, List.setIfInBounds_toArray, List.set_cons_zero, List.set_cons_succ]
  refine wpAnyH_take (i := 22) (oi := ?oRx22) (v := ?vRx22) ?qRx22 (by kernel_rfl) ?fRx22 ?gRx22 ?pRx22 ?uRx22 (by assumption) ?rRx22
  case qRx22 => (rw [List.getElem?_toArray]; rfl)
  case fRx22 => kernel_rfl
  case gRx22 => kernel_rfl
  case pRx22 => exact (fun _ _ _ h => h)
  case uRx22 => (refine Or.inl ⟨by rfl, ?_⟩; intro w hSw; (try dsimp only at hSw); go_simp; (try rw [if_neg (by omega)]); try with_reducible rfl)
  try simp only [Act.put, List.setIfInBounds_toArray, List.set_cons_zero, List.set_cons_succ]
  refine wpAnyH_take (i := 24) (oi := ?oRx24) (v := ?vRx24) ?qRx24 (by kernel_rfl) ?fRx24 ?gRx24 ?pRx24 ?uRx24 (by assumption) ?rRx24
  case qRx24 => (rw [List.getElem?_toArray]; rfl)
  case fRx24 => kernel_rfl
  case gRx24 => kernel_rfl
  case pRx24 => exact (fun _ _ _ h => h)
  case uRx24 => (refine Or.inl ⟨by rfl, ?_⟩; intro w hSw; (try dsimp only at hSw); go_simp; (try rw [if_neg (by omega)]); try with_reducible rfl)
  try simp only [Act.put, List.setIfInBounds_toArray, List.set_cons_zero, List.set_cons_succ]
  refine Mk.em_spine (fun k => if k = 27 then nx else ((tn % 4 : Nat) : Int)) (items := [⟨none, 4, 17⟩, ⟨some (6, 19), 7, 20⟩, ⟨some (9, 22), 10, 23⟩, ⟨some (15, 28), 16, 29⟩, ⟨some (18, 31), 19, 32⟩, ⟨some (20, 33), 21, 34⟩, ⟨none, 23, 36⟩, ⟨none, 25, 38⟩]) (E := [⟨17, [], la, 2, 16, []⟩, ⟨6, [.c 0, .c 2, .t 18], [], 0, 0, []⟩, ⟨14, [.c 0], lb, 1, 21, []⟩, ⟨6, [.c 1, .c 0, .t 27], [], 0, 0, []⟩, ⟨7, [.c 2, .c 1, .t 30], [], 0, 0, []⟩, ⟨11, [.c 0], [], 0, 0, []⟩, ⟨16, [], la, 1, 35, []⟩, ⟨17, [], lb, 2, 37, []⟩]) (r0 := 15) (by kernel_rfl) (by kernel_rfl) (by kernel_rfl) (by rfl) ?lbR ?tvR ?moR (by rfl) (by rfl) ?lenR (fun w' l' C => C.at0 (by omega) Hc3.out) (HC.out.quiet (Mod.refl _ _).drew) (by kernel_rfl) ?_
  case lbR => (intro e he hk; simp only [List.mem_cons, List.not_mem_nil, or_false] at he; rcases he with rfl | rfl | rfl | rfl | rfl | rfl | rfl | rfl <;> (first | (simp at hk; done) | exact rfl))
  case tvR => (intro e he k hk; simp only [List.mem_cons, List.not_mem_nil, or_false] at he; rcases he with rfl | rfl | rfl | rfl | rfl | rfl | rfl | rfl <;> (first | (simp at hk; done) | (simp at hk; subst hk; rfl)))
  case moR => (intro e he hk; simp only [List.mem_cons, List.not_mem_nil, or_false] at he; rcases he with rfl | rfl | rfl | rfl | rfl | rfl | rfl | rfl <;> (first | (simp at hk; done) | exact rfl))
  case lenR => (simp [Mk.EmC.code, Mk.EmC.ins]; omega)
  intro U xR C hU
  have u17 : U 17 = _ := hU 0 _ rfl
  have u20 : U 20 = _ := hU 1 _ rfl
  have u23 : U 23 = _ := hU 2 _ rfl
  have u29 : U 29 = _ := hU 3 _ rfl
  have u32 : U 32 = _ := hU 4 _ rfl
  have u34 : U 34 = _ := hU 5 _ rfl
  have u36 : U 36 = _ := hU 6 _ rfl
  have u38 : U 38 = _ := hU 7 _ rfl
  simp only [spTmps, SpI.tmps, List.flatMap_cons, List.flatMap_nil, Option.map_some, Option.map_none, Option.toList_some, Option.toList_none, List.cons_append, List.nil_append, List.append_nil, patch, List.foldl_cons, List.foldl_nil, Act.put, List.setIfInBounds_toArray, List.set_cons_zero, List.set_cons_succ, u17, u20, u23, u29, u32, u34, u36, u38]
  generalize U 19 = s19 at *
  generalize U 22 = s22 at *
  generalize U 28 = s28 at *
  generalize U 31 = s31 at *
  generalize U 33 = s33 at *
  clear u17 u20 u23 u29 u32 u34 u36 u38 hU hHeld
  have hfin : ∃ v' : Value, MkA N0 big f (tn : Nat) nx xR b v' (l ++ (pc ++ [⟨6, 2, 5, ((1 + tn / 4 : Nat) : Int), []⟩, ⟨17, 0, 0, 0, la⟩, ⟨6, 0, 2, ((tn % 4 : Nat) : Int), []⟩, ⟨14, 0, 0, 0, lb⟩, ⟨6, 1, 0, nx, []⟩, ⟨7, 2, 1, ((tn % 4 : Nat) : Int), []⟩, ⟨11, 0, 0, 0, []⟩, ⟨16, 0, 0, 0, la⟩, ⟨17, 0, 0, 0, lb⟩])) (k + 1 + 1 + 1) ∧ MkStep w b v xR v' := by
    obtain ⟨v', M', S'⟩ := HM4.out.chain hT C
    simp only [List.append_assoc] at M'
    exact ⟨v', M', HS4.out.trans HM.out.lt S'⟩
  have Hfin := Lib.hid hfin
  clear hfin C
  (try simp only [Exit.inBlock, Exit.then])
  go_end0
  exact ⟨rfl, Hfin.out⟩
end Go.Proofs.YtppihkneeolomaaDoor
end
/- package client: an op's code. -/
section
namespace Qc
open Qs Qu Go.Proofs.YtppihkneeolomaaDoor
inductive COp where
  | enter | leave | rest | wait | read | put (n : Int) | drop | later | flush
deriving DecidableEq
end Qc
namespace Go.Proofs.YtppihkneeolomaaDoor
open Go.RowKit Qs Qh
variable {N0 K tn f : Nat} {big : Prop} {w w1 w2 : World} {b k : Nat} {v v1 v2 : Value} {l : List Instr}
end Go.Proofs.YtppihkneeolomaaDoor
end
/- One thread alone: what blocks do to nodes. -/
section
namespace Qo
open Qs Qg Qu Qc Qh Go.Proofs.YtppihkneeolomaaDoor
variable {code A B C : List Instr} {a k : Nat} {n : Int} {m0 : M} {p q : List UInt8} {o h : List Int} {v : Int → Nat → Int} {hr : Int → Bool} {mk : List Int} {r0 r1 r2 r3 r4 tp : Int}
theorem get_v {x : Int} (h1 : x ≠ 1) (h2 : x ≠ 2) (w : Nat) : Mm.get ⟨o, h, v⟩ x w = v x w := by
  unfold Mm.get; rw [if_neg h1, if_neg h2]
theorem put_v {x : Int} (h1 : x ≠ 1) (h2 : x ≠ 2) (w : Nat) (u : Int) : Mm.put ⟨o, h, v⟩ x w u = ⟨o, h, upv v x w u⟩ := by
  unfold Mm.put; rw [if_neg h1, if_neg h2]
theorem upv_same (x : Int) (w : Nat) (u : Int) : upv v x w u x w = u := if_pos ⟨rfl, rfl⟩
theorem upv_ne {x y : Int} (h : y ≠ x) (w k : Nat) (u : Int) : upv v x w u y k = v y k := if_neg fun g => h g.1
theorem upv_nw {x y : Int} {w k : Nat} (h : k ≠ w) (u : Int) : upv v x w u y k = v y k := if_neg fun g => h g.2
theorem clr_ne {x y : Int} (h : y ≠ x) (w : Nat) : S.clr v x y w = v y w := if_neg h
theorem evn_step {B : List Instr} {n : Nat} {s s1 s2 : S} (h : S.ev1 B s = some s1) (g : S.evn B n s1 = some s2) : S.evn B (n + 1) s = some s2 := by
  unfold S.evn; rw [h]; exact g
section ops
variable {pc : Nat} {r : List Int} {m : Mm} {B : List Instr} {xa xb xc : Int} {to : List UInt8}
theorem e_const (hx : B[pc]? = some ⟨0, xa, xb, xc, to⟩) : S.ev1 B ⟨pc, r, m, hr, mk⟩ = some ⟨pc + 1, r.set xa.toNat xb, m, hr, mk⟩ := by unfold S.ev1; simp only [hx]; rfl
theorem e_move (hx : B[pc]? = some ⟨1, xa, xb, xc, to⟩) : S.ev1 B ⟨pc, r, m, hr, mk⟩ = some ⟨pc + 1, r.set xa.toNat (r.getD xb.toNat 0), m, hr, mk⟩ := by unfold S.ev1; simp only [hx]; rfl
theorem e_load (hx : B[pc]? = some ⟨6, xa, xb, xc, to⟩) {x u : Int} (e : r.getD xb.toNat 0 = x) (hh : S.here ⟨pc, r, m, hr, mk⟩ x = true) (hu : m.get x xc.toNat = u) : S.ev1 B ⟨pc, r, m, hr, mk⟩ = some ⟨pc + 1, r.set xa.toNat u, m, hr, mk⟩ := by
  unfold S.ev1; simp only [hx]
  subst e; subst hu
  exact if_pos hh
theorem e_store (hx : B[pc]? = some ⟨7, xa, xb, xc, to⟩) {x u : Int} (e : r.getD xa.toNat 0 = x) (e2 : r.getD xb.toNat 0 = u) (hh : S.here ⟨pc, r, m, hr, mk⟩ x = true) : S.ev1 B ⟨pc, r, m, hr, mk⟩ = some ⟨pc + 1, r, m.put x xc.toNat u, hr, mk⟩ := by
  unfold S.ev1; simp only [hx]
  subst e; subst e2
  exact if_pos hh
/-- A cas that meets what it looks for. -/
theorem e_cas (hx : B[pc]? = some ⟨9, xa, xb, xc, to⟩) {x u y : Int} (e : r.getD xa.toNat 0 = x) (hh : S.here ⟨pc, r, m, hr, mk⟩ x = true) (hy : m.get x xc.toNat = y) (e2 : r.getD xb.toNat 0 = y) (e3 : r.getD (xb + 1).toNat 0 = u) : S.ev1 B ⟨pc, r, m, hr, mk⟩ = some ⟨pc + 1, r.set xb.toNat y, m.put x xc.toNat u, hr, mk⟩ := by
  unfold S.ev1; simp only [hx]
  subst e; subst e3
  refine (if_pos hh).trans ?_
  show some (S.set (if m.get (r.getD xa.toNat 0) xc.toNat = r.getD xb.toNat 0 then S.wr ⟨pc + 1, r, m, hr, mk⟩ (r.getD xa.toNat 0) xc.toNat (r.getD (xb + 1).toNat 0) else ⟨pc + 1, r, m, hr, mk⟩) xb (m.get (r.getD xa.toNat 0) xc.toNat)) = _
  rw [if_pos (by rw [hy, e2]), hy]
  rfl
theorem e_free (hx : B[pc]? = some ⟨11, xa, xb, xc, to⟩) {x : Int} (e : r.getD xa.toNat 0 = x) (h1 : x ≠ 1) (h2 : x ≠ 2) (hh : hr x = true) : S.ev1 B ⟨pc, r, m, hr, mk⟩ = some ⟨pc + 1, r, ⟨m.o, m.h, S.clr m.v x⟩, fun y => if y = x then false else hr y, mk⟩ := by
  unfold S.ev1; simp only [hx]
  subst e
  exact if_pos ⟨h1, h2, hh⟩
theorem e_zero1 (hx : B[pc]? = some ⟨14, xa, xb, xc, to⟩) (e : r.getD xa.toNat 0 = 0) {j : Nat} (hj : labelAt to B 0 = some j) : S.ev1 B ⟨pc, r, m, hr, mk⟩ = some ⟨j, r, m, hr, mk⟩ := by
  unfold S.ev1; simp only [hx, hj]
  exact if_pos e
theorem e_zero0 (hx : B[pc]? = some ⟨14, xa, xb, xc, to⟩) (e : r.getD xa.toNat 0 ≠ 0) : S.ev1 B ⟨pc, r, m, hr, mk⟩ = some ⟨pc + 1, r, m, hr, mk⟩ := by
  unfold S.ev1; simp only [hx]
  exact if_neg e
theorem e_same1 (hx : B[pc]? = some ⟨15, xa, xb, xc, to⟩) (e : r.getD xa.toNat 0 = r.getD xb.toNat 0) {j : Nat} (hj : labelAt to B 0 = some j) : S.ev1 B ⟨pc, r, m, hr, mk⟩ = some ⟨j, r, m, hr, mk⟩ := by
  unfold S.ev1; simp only [hx, hj]
  exact if_pos e
theorem e_goto (hx : B[pc]? = some ⟨16, xa, xb, xc, to⟩) {j : Nat} (hj : labelAt to B 0 = some j) : S.ev1 B ⟨pc, r, m, hr, mk⟩ = some ⟨j, r, m, hr, mk⟩ := by
  unfold S.ev1; simp only [hx, hj]; rfl
theorem e_label (hx : B[pc]? = some ⟨17, xa, xb, xc, to⟩) : S.ev1 B ⟨pc, r, m, hr, mk⟩ = some ⟨pc + 1, r, m, hr, mk⟩ := by
  unfold S.ev1; simp only [hx]; rfl
theorem e_mark (hx : B[pc]? = some ⟨18, xa, xb, xc, to⟩) {u : Int} (e : r.getD xa.toNat 0 = u) (hl : mk.length < 500) : S.ev1 B ⟨pc, r, m, hr, mk⟩ = some ⟨pc + 1, r, m, hr, mk ++ [u]⟩ := by
  unfold S.ev1; simp only [hx]
  subst e
  exact if_pos hl
end ops
theorem here_of {pc : Nat} {r : List Int} {m : Mm} {x : Int} (h1 : x ≠ 1) (h2 : x ≠ 2) (hh : hr x = true) : S.here ⟨pc, r, m, hr, mk⟩ x = true := by
  unfold S.here; rw [if_neg h1, if_neg h2]; exact hh
def giveH (hr : Int → Bool) (x : Int) : Int → Bool := fun y => if y = x then true else hr y
def freeH (hr : Int → Bool) (x : Int) : Int → Bool := fun y => if y = x then false else hr y
/-- A node goes onto the thread's list. -/
theorem later_run (nx : Nat) (hB : InRow code a (laterBlk p 0 nx)) (ht1 : tp ≠ 1) (ht2 : tp ≠ 2) (htp : hr tp = true) {L : Int} (hL : v tp 1 = L) (L1 : L ≠ 1) (L2 : L ≠ 2) (hLh : hr L = true) {c : Int} (c0 : c ≠ 0) (c1 : c ≠ 1) (c2 : c ≠ 2) (hch : hr c = true) (H : At code m0 a ⟨0, [r0, r1, r2, c, r4, tp, 1, 2], ⟨o, h, v⟩, hr, mk⟩ k) (hk : k + 7 ≤ 1000000) :
    At code m0 (a + 7) ⟨0, [v L 0, r1, L, 0, r4, tp, 1, 2], ⟨o, h, upv (upv v c nx (v L 0)) L 0 c⟩, hr, mk⟩ (k + 7) := by
  have hrun : S.evn (laterBlk p 0 nx) 7 ⟨0, [r0, r1, r2, c, r4, tp, 1, 2], ⟨o, h, v⟩, hr, mk⟩ = some ⟨7, [v L 0, r1, L, 0, r4, tp, 1, 2], ⟨o, h, upv (upv v c nx (v L 0)) L 0 c⟩, hr, mk⟩ := by
    refine evn_step (e_zero0 rfl c0) ?_
    refine evn_step (e_load rfl (x := tp) (u := L) rfl (here_of ht1 ht2 htp) (by rw [get_v ht1 ht2]; exact hL)) ?_
    refine evn_step (e_load rfl (x := L) (u := v L 0) rfl (here_of L1 L2 hLh) (by rw [get_v L1 L2]; rfl)) ?_
    refine evn_step (e_store rfl (x := c) (u := v L 0) rfl rfl (here_of c1 c2 hch)) ?_
    rw [put_v c1 c2]
    refine evn_step (e_store rfl (x := L) (u := c) rfl rfl (here_of L1 L2 hLh)) ?_
    rw [put_v L1 L2]
    refine evn_step (e_const rfl) ?_
    exact evn_step (e_label rfl) rfl
  exact (At.run hB 7 H hrun hk).next (n := 7) rfl
/-- There is none. -/
theorem later_run0 (nx : Nat) (hB : InRow code a (laterBlk p 0 nx)) (H : At code m0 a ⟨0, [r0, r1, r2, 0, r4, tp, 1, 2], ⟨o, h, v⟩, hr, mk⟩ k) (hk : k + 2 ≤ 1000000) :
    At code m0 (a + 7) ⟨0, [r0, r1, r2, 0, r4, tp, 1, 2], ⟨o, h, v⟩, hr, mk⟩ (k + 2) := by
  have hrun : S.evn (laterBlk p 0 nx) 2 ⟨0, [r0, r1, r2, 0, r4, tp, 1, 2], ⟨o, h, v⟩, hr, mk⟩ = some ⟨7, [r0, r1, r2, 0, r4, tp, 1, 2], ⟨o, h, v⟩, hr, mk⟩ := by
    refine evn_step (e_zero1 (j := 6) rfl rfl (by simp [laterBlk, labelAt])) ?_
    exact evn_step (e_label rfl) rfl
  exact (At.run hB 2 H hrun hk).next (n := 7) rfl
end Qo
end
/- package stack: an op's code. -/
section
namespace Qc
open Qs Qu Go.Proofs.YtppihkneeolomaaDoor
inductive SOp where
  | push (n : Int) | pop | flush
deriving DecidableEq
def pushBlk (p q : List UInt8) (n : Int) : List Instr := [⟨10, 3, 0, 0, []⟩, ⟨14, 3, 0, 0, p⟩, ⟨0, 0, n, 0, []⟩, ⟨7, 3, 0, 0, []⟩] ++ pushCode q ++ [⟨17, 0, 0, 0, p⟩]
def popBlk (q p : List UInt8) : List Instr := popCode q ++ [⟨14, 3, 0, 0, p⟩] ++ [⟨6, 0, 3, 0, []⟩] ++ [⟨18, 0, 0, 0, []⟩] ++ [⟨17, 0, 0, 0, p⟩]
/-- An op's code: labels from k + 1 on. -/
def sblk (f tn k : Nat) : SOp → List Instr
  | .push n => pushBlk (labN (k + 1)) (labN (k + 2)) n
  | .pop => part f k 0 ++ popBlk (labN (k + 2)) (labN (k + 3)) ++ part f (k + 3) 1 ++ laterBlk (labN (k + 5)) tn 2
  | .flush => flushBlk f k tn 2
def sinc : SOp → Nat
  | .push _ => 2
  | .pop => 5
  | .flush => 3
end Qc
namespace Go.Proofs.YtppihkneeolomaaDoor
open Go.RowKit Qs Qh
variable {N0 K tn f : Nat} {big : Prop} {w w1 w2 : World} {b k : Nat} {v v1 v2 : Value} {l : List Instr}
set_option maxHeartbeats 16000000 in
theorem sop_k_flush (HF : FreshH N0 big f (tn : Nat) 2 K) (hT : big → lowT N0) (h1 : 1 ≤ f) (h4 : f ≤ 4) (htn : tn < 6) (M : MkA N0 big f (tn : Nat) 2 w b v l k) (hk : k + 5 ≤ K) (hK : K ≤ 120) (hl : l.length ≤ 80000) :
    Calls Tryd.prog 52 #[.pointer (some ⟨b, 0, none⟩), .agg #[.string ⟨#[102, 108, 117, 115, 104]⟩, .int .i64 0]] w fun e w' => e = .returned (.tuple #[]) ∧ ∃ v', MkA N0 big f (tn : Nat) 2 w' b v' (l ++ Qc.sblk f tn k .flush) (k + 3) ∧ MkStep w b v w' v' := by
  have hq := (Mod.refl noF w).alloc (.cells #[.string ⟨#[102, 108, 117, 115, 104]⟩, .int .i64 0] 63)
  have M1 := M.quiet hq
  have S1 := (MkStep.refl w b v).quiet hq
  have hbx : w.heap.size ≠ b := by have := M.lt; omega
  have hvx : v.ownBlock ≠ some w.heap.size := fun e => by have := M.vlt e; omega
  have e0 : ((⟨#[102, 108, 117, 115, 104]⟩ : ByteArray).toList == (⟨#[112, 117, 115, 104]⟩ : ByteArray).toList) = false := by
    rw [ByteArray.toList_eq, ByteArray.toList_eq]; rfl
  have e1 : ((⟨#[102, 108, 117, 115, 104]⟩ : ByteArray).toList == (⟨#[112, 111, 112]⟩ : ByteArray).toList) = false := by
    rw [ByteArray.toList_eq, ByteArray.toList_eq]; rfl
  have e2 : ((⟨#[102, 108, 117, 115, 104]⟩ : ByteArray).toList == (⟨#[102, 108, 117, 115, 104]⟩ : ByteArray).toList) = true := by simp
  have HM := Lib.hid M
  have HM1 := Lib.hid M1
  have HS1 := Lib.hid S1
  have Hbx := Lib.hid hbx
  have Hvx := Lib.hid hvx
  have hc := flush_ok HF hT h1 h4 htn HM1.out (by omega) hK (by omega)
  have Hc := Lib.hid hc
  unfold Qc.sblk
  clear M M1 S1 hbx hvx HF hq hc
  go_enter Tryd.func52, Tryd.ntmps52
  go_wp2_with fail
  refine Hc.out.mono ?_
  rintro e w2 ⟨rfl, v2, M2, S2⟩
  have HM2 := Lib.hid M2
  have HS2 := Lib.hid (HS1.out.trans HM.out.lt S2)
  clear M2 S2
  go_wp2
  go_end0
  exact ⟨rfl, v2, HM2.out, HS2.out⟩
set_option maxHeartbeats 16000000 in
theorem sop_k_push (n : Int) (HF : FreshH N0 big f (tn : Nat) 2 K) (hT : big → lowT N0) (h1 : 1 ≤ f) (h4 : f ≤ 4) (htn : tn < 6) (M : MkA N0 big f (tn : Nat) 2 w b v l k) (hk : k + 5 ≤ K) (hK : K ≤ 120) (hl : l.length ≤ 80000) :
    Calls Tryd.prog 52 #[.pointer (some ⟨b, 0, none⟩), .agg #[.string ⟨#[112, 117, 115, 104]⟩, .int .i64 n]] w fun e w' => e = .returned (.tuple #[]) ∧ ∃ v', MkA N0 big f (tn : Nat) 2 w' b v' (l ++ Qc.sblk f tn k (.push n)) (k + 2) ∧ MkStep w b v w' v' := by
  have hq := (Mod.refl noF w).alloc (.cells #[.string ⟨#[112, 117, 115, 104]⟩, .int .i64 n] 63)
  have M1 := M.quiet hq
  have S1 := (MkStep.refl w b v).quiet hq
  have hbx : w.heap.size ≠ b := by have := M.lt; omega
  have hvx : v.ownBlock ≠ some w.heap.size := fun e => by have := M.vlt e; omega
  have e0 : ((⟨#[112, 117, 115, 104]⟩ : ByteArray).toList == (⟨#[112, 117, 115, 104]⟩ : ByteArray).toList) = true := by simp
  have HM := Lib.hid M
  have HM1 := Lib.hid M1
  have HS1 := Lib.hid S1
  have Hbx := Lib.hid hbx
  have Hvx := Lib.hid hvx
  have c1 : (w.alloc (.cells #[.string ⟨#[112, 117, 115, 104]⟩, .int .i64 n] 63)).cell? ⟨w.heap.size, 1, none⟩ = some (.int .i64 n) := by simp
  have Hc1 := Lib.hid c1
  have hfr := HF _ _ _ _ k (by omega) M1
  have Hfr := Lib.hid hfr
  have hlf := Qu.labN_facts (k + 2) (by omega)
  have hfr2 := fun (W : World) (v : Value) (l : List Instr) (M : MkA N0 big f (tn : Nat) 2 W b v l (k + 1)) => HF W b v l (k + 1) (by omega) M
  have Hfr2 := Lib.hid hfr2
  have hpu := fun W => push_ok ⟨(Qu.labN (k + 2)).toArray⟩ W (by simpa using hlf.2.2.1) (by have := hlf.2.1; simp [ByteArray.size]; omega)
  have Hpu := Lib.hid hpu
  have hpl : (pushCode (Qu.labN (k + 2))).length = 9 := rfl
  unfold Qc.sblk Qc.pushBlk
  rw [show k + 1 + 1 = k + 2 from rfl] at Hfr2
  simp only at Hpu
  generalize Qu.labN (k + 1) = lb at *
  generalize Qu.labN (k + 2) = lc at *
  clear M M1 S1 hbx hvx HF hq hfr c1 hlf hfr2 hpu
  go_enter Tryd.func52, Tryd.ntmps52
  go_wp2_with fail
  refine Hfr.out.mono ?_
  rintro e w2 ⟨rfl, M2, S2⟩
  have HM2 := Lib.hid M2
  have Hg1 := Lib.hid (S2.old (p := ⟨w.heap.size, 1, none⟩) Hbx.out Hvx.out Hc1.out)
  have HS2 := Lib.hid (HS1.out.trans HM.out.lt S2)
  have HC := Lib.hid (Chain.start M2.m.emit)
  clear M2 S2
  go_wp2
  refine wp_region_held_drew (S := fun W => W.cell? ⟨w.heap.size, 1, none⟩ = some (.int .i64 n)) (by kernel_rfl) ((Mod.refl noF _).drew.cell Hg1.out (fun e => e)) (fun hHeld => ?_)
  refine wpAnyH_take (i := 0) (oi := ?oRx0) (v := ?vRx0) ?qRx0 (by kernel_rfl) ?fRx0 ?gRx0 ?pRx0 ?uRx0 (by assumption) ?rRx0
  case qRx0 => (rw [List.getElem?_toArray]; rfl)
  case fRx0 => kernel_rfl
  case gRx0 => kernel_rfl
  case pRx0 => exact (fun _ _ _ h => h)
  case uRx0 => (refine Or.inl ⟨by rfl, ?_⟩; intro w hSw; (try dsimp only at hSw); go_simp; (try rw [if_neg (by omega)]); try with_reducible rfl)
  try simp only [Act.put, List.setIfInBounds_toArray, List.set_cons_zero, List.set_cons_succ]
  refine wpAnyH_take (i := 1) (oi := ?oRx1) (v := ?vRx1) ?qRx1 (by kernel_rfl) ?fRx1 ?gRx1 ?pRx1 ?uRx1 (by assumption) ?rRx1
  case qRx1 => (rw [List.getElem?_toArray]; rfl)
  case fRx1 => kernel_rfl
  case gRx1 => kernel_rfl
  case pRx1 => exact (fun _ _ _ h => h)
  case uRx1 => (refine Or.inl ⟨by rfl, ?_⟩; intro w hSw; (try dsimp only at hSw); go_simp; (try rw [if_neg (by omega)]); try with_reducible rfl)
  try simp only [Act.put, List.setIfInBounds_toArray, List.set_cons_zero, List.set_cons_succ]
  refine wpAnyH_take (i := 2) (oi := ?oRx2) (v := ?vRx2) ?qRx2 (by kernel_rfl) ?fRx2 ?gRx2 ?pRx2 ?uRx2 (by assumption) ?rRx2
  case qRx2 => (rw [List.getElem?_toArray]; rfl)
  case fRx2 => kernel_rfl
  case gRx2 => kernel_rfl
  case pRx2 => exact (fun _ _ _ h => h)
  case uRx2 => (refine Or.inl ⟨by rfl, ?_⟩; intro w hSw; (try dsimp only at hSw); go_simp; (try rw [if_neg (by omega)]); try with_reducible rfl)
  try simp only [Act.put, List.setIfInBounds_toArray, List.set_cons_zero, List.set_cons_succ]
  refine wpAnyH_take (i := 5) (oi := ?oRx5) (v := ?vRx5) ?qRx5 (by kernel_rfl) ?fRx5 ?gRx5 ?pRx5 ?uRx5 (by assumption) ?rRx5
  case qRx5 => (rw [List.getElem?_toArray]; rfl)
  case fRx5 => kernel_rfl
  case gRx5 => kernel_rfl
  case pRx5 => exact (fun _ _ _ h => h)
  case uRx5 => (refine Or.inl ⟨by rfl, ?_⟩; intro w hSw; (try dsimp only at hSw); go_simp; (try rw [if_neg (by omega)]); try with_reducible rfl)
  try simp only [Act.put, List.setIfInBounds_toArray, List.set_cons_zero, List.set_cons_succ]
  refine wpAnyH_take (i := 8) (oi := ?oRx8) (v := ?vRx8) ?qRx8 (by kernel_rfl) ?fRx8 ?gRx8 ?pRx8 ?uRx8 (by assumption) ?rRx8
  case qRx8 => (rw [List.getElem?_toArray]; rfl)
  case fRx8 => kernel_rfl
  case gRx8 => kernel_rfl
  case pRx8 => exact (fun _ _ _ h => h)
  case uRx8 => (refine Or.inl ⟨by rfl, ?_⟩; intro w hSw; (try dsimp only at hSw); go_simp; (try rw [if_neg (by omega)]); try with_reducible rfl)
  try simp only [Act.put, List.setIfInBounds_toArray, List.set_cons_zero, List.set_cons_succ]
  refine wpAnyH_take (i := 9) (oi := ?oRx9) (v := ?vRx9) ?qRx9 (by kernel_rfl) ?fRx9 ?gRx9 ?pRx9 ?uRx9 (by assumption) ?rRx9
  case qRx9 => (rw [List.getElem?_toArray]; rfl)
  case fRx9 => kernel_rfl
  case gRx9 => kernel_rfl
  case pRx9 => exact (fun _ _ _ h => h)
  case uRx9 => (refine Or.inl ⟨by rfl, ?_⟩; intro w hSw; (try dsimp only at hSw); go_simp; (try rw [if_neg (by omega)]); try with_reducible rfl)
  try simp only [Act.put, List.setIfInBounds_toArray, List.set_cons_zero, List.set_cons_succ]
  refine Mk.em_spine (fun _ => n) (items := [⟨some (3, 19), 4, 20⟩, ⟨some (6, 22), 7, 23⟩, ⟨some (10, 26), 11, 27⟩, ⟨some (12, 28), 13, 29⟩]) (E := [⟨10, [.c 3], [], 0, 0, []⟩, ⟨14, [.c 3], lb, 1, 21, []⟩, ⟨0, [.c 0, .t 25], [], 0, 0, []⟩, ⟨7, [.c 3, .c 0, .c 0], [], 0, 0, []⟩]) (r0 := 18) (by kernel_rfl) (by kernel_rfl) (by kernel_rfl) (by rfl) ?lbR ?tvR ?moR (by rfl) (by rfl) ?lenR (fun w' l' C => C.mine (p := ⟨w.heap.size, 1, none⟩) Hbx.out Hvx.out Hg1.out) (HC.out.quiet (Mod.refl _ _).drew) (by kernel_rfl) ?_
  case lbR => (intro e he hk; simp only [List.mem_cons, List.not_mem_nil, or_false] at he; rcases he with rfl | rfl | rfl | rfl <;> (first | (simp at hk; done) | exact rfl))
  case tvR => (intro e he k hk; simp only [List.mem_cons, List.not_mem_nil, or_false] at he; rcases he with rfl | rfl | rfl | rfl <;> (first | (simp at hk; done) | (simp at hk; subst hk; rfl)))
  case moR => (intro e he hk; simp only [List.mem_cons, List.not_mem_nil, or_false] at he; rcases he with rfl | rfl | rfl | rfl <;> (first | (simp at hk; done) | exact rfl))
  case lenR => (simp [Mk.EmC.code, Mk.EmC.ins]; omega)
  intro U xR C hU
  have u20 : U 20 = _ := hU 0 _ rfl
  have u23 : U 23 = _ := hU 1 _ rfl
  have u27 : U 27 = _ := hU 2 _ rfl
  have u29 : U 29 = _ := hU 3 _ rfl
  simp only [spTmps, SpI.tmps, List.flatMap_cons, List.flatMap_nil, Option.map_some, Option.map_none, Option.toList_some, Option.toList_none, List.cons_append, List.nil_append, List.append_nil, patch, List.foldl_cons, List.foldl_nil, Act.put, List.setIfInBounds_toArray, List.set_cons_zero, List.set_cons_succ, u20, u23, u27, u29]
  generalize U 19 = s19 at *
  generalize U 22 = s22 at *
  generalize U 26 = s26 at *
  generalize U 28 = s28 at *
  clear u20 u23 u27 u29 hU hHeld
  have hfin : ∃ v' : Value, MkA N0 big f (tn : Nat) 2 xR b v' (l ++ [⟨10, 3, 0, 0, []⟩, ⟨14, 3, 0, 0, lb⟩, ⟨0, 0, n, 0, []⟩, ⟨7, 3, 0, 0, []⟩]) (k + 1) ∧ MkStep w b v xR v' := by
    obtain ⟨v', M', S'⟩ := HM2.out.chain hT C
    exact ⟨v', M', HS2.out.trans HM.out.lt S'⟩
  obtain ⟨v3, M3, S3⟩ := hfin
  have HM3 := Lib.hid M3
  have HS3 := Lib.hid S3
  have hf3 := Hfr2.out xR v3 _ M3
  have Hf3 := Lib.hid hf3
  clear M3 S3 C hf3
  go_wp2_with fail
  refine Hf3.out.mono ?_
  rintro e w4 ⟨rfl, M4, S4⟩
  have HM4 := Lib.hid M4
  have HS4 := Lib.hid (HS3.out.trans HM.out.lt S4)
  clear M4 S4 Hf3
  go_wp2_with fail
  refine (Hpu.out w4).mono ?_
  rintro e w5 ⟨va, rfl, hma⟩
  have hqa := Mod.below hma.2.1
  obtain ⟨ga, ca, rfl, hsA⟩ := InsRow.src hma.1 (by rw [hpl]; omega)
  have HM5 := Lib.hid (HM4.out.quiet hqa)
  have HS5 := Lib.hid (HS4.out.quiet hqa)
  have HsA := Lib.hid hsA
  have HC5 := Lib.hid (Chain.start HM5.out.m.emit)
  clear hma hqa hsA
  go_wp2_with fail
  refine (more_chain HC5.out (by simp; omega) (pushCode lc) ga ca HsA.out (by rw [hpl]; omega)).mono ?_
  rintro e x1 ⟨rfl, C⟩
  have HC6 := Lib.hid C
  clear C
  go_wp2_with fail
  refine (label_chain HC6.out (by simp; omega) lb _ rfl).mono ?_
  rintro e x2 ⟨rfl, C⟩
  have hfin : ∃ v' : Value, MkA N0 big f (tn : Nat) 2 x2 b v' (l ++ ([⟨10, 3, 0, 0, []⟩, ⟨14, 3, 0, 0, lb⟩, ⟨0, 0, n, 0, []⟩, ⟨7, 3, 0, 0, []⟩] ++ pushCode lc ++ [⟨17, 0, 0, 0, lb⟩])) (k + 2) ∧ MkStep w b v x2 v' := by
    obtain ⟨v', M', S'⟩ := HM5.out.chain hT C
    refine ⟨v', ?_, HS5.out.trans HM.out.lt S'⟩
    simp only [List.append_assoc] at M' ⊢
    exact M'
  have Hfin := Lib.hid hfin
  clear hfin C
  go_wp2
  (try simp only [Exit.inBlock, Exit.then])
  go_end0
  exact ⟨rfl, Hfin.out⟩
set_option maxHeartbeats 16000000 in
theorem sop_k_pop (HF : FreshH N0 big f (tn : Nat) 2 K) (hT : big → lowT N0) (h1 : 1 ≤ f) (h4 : f ≤ 4) (htn : tn < 6) (M : MkA N0 big f (tn : Nat) 2 w b v l k) (hk : k + 5 ≤ K) (hK : K ≤ 120) (hl : l.length ≤ 80000) :
    Calls Tryd.prog 52 #[.pointer (some ⟨b, 0, none⟩), .agg #[.string ⟨#[112, 111, 112]⟩, .int .i64 0]] w fun e w' => e = .returned (.tuple #[]) ∧ ∃ v', MkA N0 big f (tn : Nat) 2 w' b v' (l ++ Qc.sblk f tn k .pop) (k + 5) ∧ MkStep w b v w' v' := by
  have hq := (Mod.refl noF w).alloc (.cells #[.string ⟨#[112, 111, 112]⟩, .int .i64 0] 63)
  have M1 := M.quiet hq
  have S1 := (MkStep.refl w b v).quiet hq
  have hbx : w.heap.size ≠ b := by have := M.lt; omega
  have hvx : v.ownBlock ≠ some w.heap.size := fun e => by have := M.vlt e; omega
  have e0 : ((⟨#[112, 111, 112]⟩ : ByteArray).toList == (⟨#[112, 117, 115, 104]⟩ : ByteArray).toList) = false := by
    rw [ByteArray.toList_eq, ByteArray.toList_eq]; rfl
  have e1 : ((⟨#[112, 111, 112]⟩ : ByteArray).toList == (⟨#[112, 111, 112]⟩ : ByteArray).toList) = true := by simp
  have HM := Lib.hid M
  have HM1 := Lib.hid M1
  have HS1 := Lib.hid S1
  have Hbx := Lib.hid hbx
  have Hvx := Lib.hid hvx
  have hc := part0_ok HF hT h1 h4 HM1.out (by omega) hK (by omega)
  have Hc := Lib.hid hc
  have hlf := Qu.labN_facts (k + 2) (by omega)
  have hfr2 := fun (W : World) (v : Value) (l : List Instr) (M : MkA N0 big f (tn : Nat) 2 W b v l (k + 1)) => HF W b v l (k + 1) (by omega) M
  have hfr3 := fun (W : World) (v : Value) (l : List Instr) (M : MkA N0 big f (tn : Nat) 2 W b v l (k + 2)) => HF W b v l (k + 2) (by omega) M
  have hp1 := fun (W : World) (v : Value) (l : List Instr) (M : MkA N0 big f (tn : Nat) 2 W b v l (k + 3)) (hl : l.length ≤ 100000) => part1_ok HF hT h1 h4 M (by omega) hK hl
  have hl4 := fun (W : World) (v : Value) (l : List Instr) (M : MkA N0 big f (tn : Nat) 2 W b v l (k + 4)) (hl : l.length ≤ 100000) => later_ok HF hT htn M (by omega) hl
  have Hfr2 := Lib.hid hfr2
  have Hfr3 := Lib.hid hfr3
  have Hp1 := Lib.hid hp1
  have Hl4 := Lib.hid hl4
  have hpu := fun W => pop_ok ⟨(Qu.labN (k + 2)).toArray⟩ W (by simpa using hlf.2.2.1) (by have := hlf.2.1; simp [ByteArray.size]; omega)
  have Hpu := Lib.hid hpu
  have hpl : (popCode (Qu.labN (k + 2))).length = 10 := rfl
  have g0 : (Qc.part f k 0).length ≤ 70 := by unfold Qc.part preC; rw [List.length_map]; exact gcode_len h4 (by decide)
  have g1 : (Qc.part f (k + 3) 1).length ≤ 70 := by unfold Qc.part preC; rw [List.length_map]; exact gcode_len h4 (by decide)
  unfold Qc.sblk Qc.popBlk
  rw [show k + 1 + 1 = k + 2 from rfl] at Hfr2
  rw [show k + 2 + 1 = k + 3 from rfl] at Hfr3
  simp only at Hpu
  generalize Qu.labN (k + 3) = lb at *
  generalize Qu.labN (k + 2) = lc at *
  clear M M1 S1 hbx hvx HF hq hc hlf hfr2 hfr3 hp1 hl4 hpu
  go_enter Tryd.func52, Tryd.ntmps52
  go_wp2_with fail
  refine Hc.out.mono ?_
  rintro e w2 ⟨rfl, v2, M2, S2⟩
  have hM2 : MkA N0 big f (tn : Nat) 2 w2 b v2 (l ++ Qc.part f k 0) (k + 1) := M2
  have HS2 := Lib.hid (HS1.out.trans HM.out.lt S2)
  have hf2 := Hfr2.out w2 v2 _ hM2
  have Hf2 := Lib.hid hf2
  clear M2 S2 hM2 hf2 Hc
  go_wp2_with fail
  refine Hf2.out.mono ?_
  rintro e w4 ⟨rfl, M4, S4⟩
  have HM4 := Lib.hid M4
  have HS4 := Lib.hid (HS2.out.trans HM.out.lt S4)
  clear M4 S4 Hf2
  go_wp2_with fail
  refine (Hpu.out w4).mono ?_
  rintro e w5 ⟨va, rfl, hma⟩
  have hqa := Mod.below hma.2.1
  obtain ⟨ga, ca, rfl, hsA⟩ := InsRow.src hma.1 (by rw [hpl]; omega)
  have hga := hma.2.2 ga rfl
  have HM5 := Lib.hid (HM4.out.quiet hqa)
  have HS5 := Lib.hid (HS4.out.quiet hqa)
  have hgb : ga ≠ b := by have := HM4.out.lt; omega
  have hgv : v2.ownBlock ≠ some ga := fun e => by have := HM4.out.vlt e; omega
  have HsA := Lib.hid hsA
  have Hgb := Lib.hid hgb
  have Hgv := Lib.hid hgv
  have hf5 := Hfr3.out w5 v2 _ HM5.out
  have Hf5 := Lib.hid hf5
  clear hma hqa hsA hga hgb hgv hf5
  go_wp2_with fail
  refine Hf5.out.mono ?_
  rintro e w6 ⟨rfl, M6, S6⟩
  have HM6 := Lib.hid M6
  have HS6 := Lib.hid (HS5.out.trans HM.out.lt S6)
  have hsA6 : ∀ j u, (flat insV 0 (popCode lc))[j]? = some u → w6.cell? ((⟨ga, 0, none⟩ : Addr).add j) = some u := fun j u h => by
    have hadd : (⟨ga, 0, none⟩ : Addr).add j = ⟨ga, 0 + j, none⟩ := by unfold Addr.add; split <;> simp_all
    have h2 := HsA.out j u h
    rw [hadd] at h2 ⊢
    exact S6.old (p := ⟨ga, 0 + j, none⟩) Hgb.out Hgv.out h2
  have HsA6 := Lib.hid hsA6
  have HC5 := Lib.hid (Chain.start M6.m.emit)
  clear M6 S6 hsA6 Hf5
  go_wp2_with fail
  refine (more_chain HC5.out (by simp; omega) (popCode lc) ga ca HsA6.out (by rw [hpl]; omega)).mono ?_
  rintro e x1 ⟨rfl, C⟩
  have HC1 := Lib.hid C
  clear C
  go_wp2_with fail
  refine (to1_chain (HC1.out.quiet ((Mod.refl _ _).alloc _)) (by simp; omega) 14 _ rfl lb _ rfl x1.heap.size 3 1 (by simp) (by simp)).mono ?_
  rintro e x2 ⟨rfl, C⟩
  have HC2 := Lib.hid C
  clear C
  go_wp2_with fail
  refine (op3_chain (HC2.out.quiet ((Mod.refl _ _).alloc _)) (by simp; omega) 6 _ rfl x2.heap.size 0 3 0 3 (by simp) (by simp) (by simp) (by simp)).mono ?_
  rintro e x3 ⟨rfl, C⟩
  have HC3 := Lib.hid C
  clear C
  go_wp2_with fail
  refine (op1_chain (HC3.out.quiet ((Mod.refl _ _).alloc _)) (by simp; omega) 18 _ rfl x3.heap.size 0 1 (by simp) (by simp)).mono ?_
  rintro e x4 ⟨rfl, C⟩
  have HC4 := Lib.hid C
  clear C
  go_wp2_with fail
  refine (label_chain HC4.out (by simp; omega) lb _ rfl).mono ?_
  rintro e x5 ⟨rfl, C⟩
  obtain ⟨v7, M7, S7⟩ := HM6.out.chain hT C
  have HS7 := Lib.hid (HS6.out.trans HM.out.lt S7)
  have hp7 := Hp1.out x5 v7 _ M7 (by simp; omega)
  have Hp7 := Lib.hid hp7
  clear C M7 S7 hp7
  go_wp2_with fail
  refine Hp7.out.mono ?_
  rintro e w8 ⟨rfl, v8, M8, S8⟩
  have HS8 := Lib.hid (HS7.out.trans HM.out.lt S8)
  have hp8 := Hl4.out w8 v8 _ M8 (by have : (preC (Qu.labN (k + 3 + 1)) (gcode f 1)).length ≤ 70 := g1; simp; omega)
  have Hp8 := Lib.hid hp8
  clear M8 S8 hp8 Hp7
  go_wp2_with fail
  refine Hp8.out.mono ?_
  rintro e w9 ⟨rfl, v9, M9, S9⟩
  have HS9 := Lib.hid (HS8.out.trans HM.out.lt S9)
  have hM9 : MkA N0 big f (tn : Nat) 2 w9 b v9 (l ++ (Qc.part f k 0 ++ (popCode lc ++ [⟨14, 3, 0, 0, lb⟩] ++ [⟨6, 0, 3, 0, []⟩] ++ [⟨18, 0, 0, 0, []⟩] ++ [⟨17, 0, 0, 0, lb⟩]) ++ Qc.part f (k + 3) 1 ++ Qc.laterBlk (Qu.labN (k + 5)) tn 2)) (k + 5) := by
    unfold Qc.part
    simp only [List.append_assoc] at M9 ⊢
    exact M9
  have HM9 := Lib.hid hM9
  clear M9 S9 hM9 Hp8
  go_wp2
  (try simp only [Exit.inBlock, Exit.then])
  go_end0
  exact ⟨rfl, v9, HM9.out, HS9.out⟩
end Go.Proofs.YtppihkneeolomaaDoor
end
/- package client: the base of a start: rows of numbers, owned. -/
section
namespace Go.Proofs.YtppihkneeolomaaDoor
open Go.RowKit Qs Qh
/-- A row's value: nil where there is none. -/
def rwU (l : List Int) (b : Nat) : Value := if l.length = 0 then .slice none 0 0 else .slice (some ⟨b, 0, none⟩) l.length l.length
def rwV (ll : List (List Int)) (bl : Nat → Nat) : List Value := ll.mapIdx fun i l => rwU l (bl i)
/-- Rows of numbers that their maker owns, in blocks of a range. -/
structure Rws (lo hi : Nat) (w : World) (v : Value) (ll : List (List Int)) (bl : Nat → Nat) : Prop where
  own : w.ownsRow 0 23 1 v ll.length (rwV ll bl)
  row : ∀ (i : Nat) l, ll[i]? = some l → l.length ≠ 0 → w.heap[bl i]? = some (.cells (l.map (Value.int .i64)).toArray 3 (0, 0))
  vin : ∀ g, v.ownBlock = some g → lo ≤ g ∧ g < hi
  bin : ∀ (i : Nat) l, ll[i]? = some l → l.length ≠ 0 → lo ≤ bl i ∧ bl i < hi
  vne : ∀ g (i : Nat) l, v.ownBlock = some g → ll[i]? = some l → l.length ≠ 0 → g ≠ bl i
  inj : ∀ (i j : Nat) l l', ll[i]? = some l → ll[j]? = some l' → l.length ≠ 0 → l'.length ≠ 0 → bl i = bl j → i = j
variable {lo hi : Nat} {w w1 w3 w4 : World} {v v4 : Value} {ll : List (List Int)} {bl : Nat → Nat}
theorem Rws.nil (lo hi : Nat) (w : World) (bl : Nat → Nat) : Rws lo hi w (.slice none 0 0) [] bl :=
  ⟨World.ownsRow_nil w 0 _ 1, fun i l h _ => by simp at h, fun g h => (by cases h), fun i l h _ => by simp at h, fun g i l h _ _ => (by cases h), fun i j l l' h _ _ _ _ => by simp at h⟩
theorem Rws.keep (R : Rws lo hi w v ll bl) {F : Nat → Prop} (hM : Mod F w w1) (hF : ∀ k, lo ≤ k → k < hi → ¬ F k) : Rws lo hi w1 v ll bl := by
  refine ⟨⟨R.own.1, ?_⟩, fun i l h h0 => hM.heap (R.row i l h h0) (hF _ (R.bin i l h h0).1 (R.bin i l h h0).2), R.vin, R.bin, R.vne, R.inj⟩
  rcases R.own.2 with e | ⟨g, cap, cur, rfl, h0, hg, r⟩
  · exact .inl e
  · exact .inr ⟨g, cap, cur, rfl, h0, hM.heap hg (hF _ (R.vin g rfl).1 (R.vin g rfl).2), r⟩
theorem Rws.more (R : Rws lo hi w v ll bl) {hi' : Nat} (h : hi ≤ hi') : Rws lo hi' w v ll bl :=
  ⟨R.own, R.row, fun g hg => ⟨(R.vin g hg).1, Nat.lt_of_lt_of_le (R.vin g hg).2 h⟩, fun i l hi h0 => ⟨(R.bin i l hi h0).1, Nat.lt_of_lt_of_le (R.bin i l hi h0).2 h⟩, R.vne, R.inj⟩
theorem rwV_push (l : List Int) (r : Nat) : rwV (ll ++ [l]) (fun i => if i = ll.length then r else bl i) = rwV ll bl ++ [rwU l r] := by
  unfold rwV
  rw [List.mapIdx_concat]
  simp only [if_true]
  congr 1
  refine List.ext_getElem? fun i => ?_
  rw [List.getElem?_mapIdx, List.getElem?_mapIdx]
  by_cases h : i < ll.length
  · rw [if_neg (by omega)]
  · rw [List.getElem?_eq_none (by omega)]; rfl
/-- A row more, in a block outside. -/
theorem Rws.push0 {lo0 : Nat} (h00 : lo0 ≤ lo) (R : Rws lo hi w v ll bl) (hhi : hi ≤ w.heap.size) (hlo : lo ≤ w.heap.size) (hM : Mod noF w w3) {l : List Int} {r : Nat} {B o : Nat} (hr0 : l.length ≠ 0 → lo0 ≤ r ∧ r ≠ B ∧ (hi ≤ r ∨ r < lo)) (hr : l.length ≠ 0 → w3.heap[r]? = some (.cells (l.map (Value.int .i64)).toArray 3 (0, 0)))
    (hown : w4.ownsRow 0 23 1 v4 (ll.length + 1) (rwV ll bl ++ [rwU l r])) (hg : w3.grownBy w4 v.ownBlock) (hfr : ∀ g, v4.ownBlock = some g → v.ownBlock = some g ∨ w3.heap.size ≤ g)
    (hB : ∀ k, lo ≤ k → k < hi → k ≠ B) (hBs : B < w.heap.size) :
    Rws lo0 w4.heap.size (w4.setCell ⟨B, o, none⟩ v4) v4 (ll ++ [l]) (fun i => if i = ll.length then r else bl i) ∧ Mod (fun k => k = B ∨ v.ownBlock = some k) w (w4.setCell ⟨B, o, none⟩ v4) := by
  have hM4 : Mod (fun x => v.ownBlock = some x) w w4 := hM.any.grown hg fun j hj _ => hj
  have hM4b : Mod (fun x => v.ownBlock = some x) w3 w4 := (Mod.refl (fun x => v.ownBlock = some x) w3).grown hg fun j hj _ => hj
  have hM5 : Mod (fun x => x = B) w4 (w4.setCell ⟨B, o, none⟩ v4) := (Mod.refl (fun x => x = B) w4).setCell (fun _ => rfl) v4
  have hall : Mod (fun x => x = B ∨ v.ownBlock = some x) w (w4.setCell ⟨B, o, none⟩ v4) := (hM4.mono fun x _ hx => .inr hx).trans hM5 fun x _ hx => .inl hx
  have hs1 := hM.size
  have hs2 := hM4b.size
  have hget : ∀ {i : Nat} {x : List Int}, (ll ++ [l])[i]? = some x → (i < ll.length ∧ ll[i]? = some x) ∨ (i = ll.length ∧ x = l) := fun {i x} h => by
    by_cases hi : i < ll.length
    · rw [List.getElem?_append_left hi] at h; exact .inl ⟨hi, h⟩
    · rw [List.getElem?_append_right (by omega)] at h
      have : i - ll.length = 0 := by have := (List.getElem?_eq_some_iff.1 h).1; simp at this; omega
      rw [this] at h; simp at h
      exact .inr ⟨by omega, h.symm⟩
  have hvin : ∀ g, v4.ownBlock = some g → lo0 ≤ g ∧ g < w4.heap.size ∧ g ≠ B := fun g hg4 => by
    have hlt := (World.ownsRow.lt hown g hg4).2
    rcases hfr g hg4 with e | e
    · have := R.vin g e; exact ⟨by omega, hlt, hB g this.1 this.2⟩
    · exact ⟨by omega, hlt, by omega⟩
  have hrl : l.length ≠ 0 → r < w3.heap.size := fun h0 => lt_of_block (hr h0)
  refine ⟨⟨?_, fun i x h h0 => ?_, fun g hg4 => ⟨(hvin g hg4).1, (hvin g hg4).2.1⟩, fun i x h h0 => ?_, fun g i x hg4 h h0 e => ?_, fun i j x y h1 h2 h3 h4 e => ?_⟩, hall⟩
  · rw [rwV_push, List.length_append]
    exact ownsRow_setCell_other hown (fun hx => (hvin _ hx).2.2 rfl) _
  · rcases hget h with ⟨hi, h⟩ | ⟨rfl, rfl⟩
    · rw [if_neg (show ¬ i = ll.length by omega)]
      have hb := R.bin i x h h0
      refine hall.heap (R.row i x h h0) fun e => ?_
      rcases e with e | e
      · exact hB _ hb.1 hb.2 e
      · exact R.vne _ i x e h h0 rfl
    · simp only [if_true]
      have hr1 := hr0 h0
      refine hM5.heap (hM4b.heap (hr h0) fun e => ?_) fun e => hr1.2.1 e
      have := R.vin r e; omega
  · rcases hget h with ⟨hi', h⟩ | ⟨rfl, rfl⟩
    · rw [if_neg (show ¬ i = ll.length by omega)]
      have hb := R.bin i x h h0
      exact ⟨by omega, by omega⟩
    · simp only [if_true]
      have := hr0 h0; have := hrl h0
      exact ⟨by omega, by omega⟩
  · rcases hget h with ⟨hi', h⟩ | ⟨rfl, rfl⟩
    · rw [if_neg (show ¬ i = ll.length by omega)] at e
      have hb := R.bin i x h h0
      rcases hfr g hg4 with e' | e'
      · exact R.vne g i x e' h h0 e
      · omega
    · simp only [if_true] at e
      subst e
      have := hr0 h0; have := hrl h0
      rcases hfr g hg4 with e' | e'
      · have := R.vin g e'; omega
      · omega
  · rcases hget h1 with ⟨hi1, q1⟩ | ⟨rfl, rfl⟩ <;> rcases hget h2 with ⟨hi2, q2⟩ | ⟨rfl, rfl⟩
    · rw [if_neg (show ¬ i = ll.length by omega), if_neg (show ¬ j = ll.length by omega)] at e
      exact R.inj i j x y q1 q2 h3 h4 e
    · simp only [if_true] at e; rw [if_neg (show ¬ i = ll.length by omega)] at e
      have := R.bin i x q1 h3; have := hr0 h4; omega
    · simp only [if_true] at e; rw [if_neg (show ¬ j = ll.length by omega)] at e
      have := R.bin j y q2 h4; have := hr0 h3; omega
    · rfl
/-- A row more. -/
theorem Rws.push (R : Rws lo hi w v ll bl) (hhi : hi ≤ w.heap.size) (hlo : lo ≤ w.heap.size) (hM : Mod noF w w3) {l : List Int} {r : Nat} {B o : Nat} (hr0 : l.length ≠ 0 → hi ≤ r ∧ lo ≤ r ∧ r ≠ B) (hr : l.length ≠ 0 → w3.heap[r]? = some (.cells (l.map (Value.int .i64)).toArray 3 (0, 0)))
    (hown : w4.ownsRow 0 23 1 v4 (ll.length + 1) (rwV ll bl ++ [rwU l r])) (hg : w3.grownBy w4 v.ownBlock) (hfr : ∀ g, v4.ownBlock = some g → v.ownBlock = some g ∨ w3.heap.size ≤ g)
    (hB : ∀ k, lo ≤ k → k < hi → k ≠ B) (hBs : B < w.heap.size) :
    Rws lo w4.heap.size (w4.setCell ⟨B, o, none⟩ v4) v4 (ll ++ [l]) (fun i => if i = ll.length then r else bl i) ∧ Mod (fun k => k = B ∨ v.ownBlock = some k) w (w4.setCell ⟨B, o, none⟩ v4) :=
  R.push0 (Nat.le_refl lo) hhi hlo hM (fun h => ⟨(hr0 h).2.1, (hr0 h).2.2, .inl (hr0 h).1⟩) hr hown hg hfr hB hBs
end Go.Proofs.YtppihkneeolomaaDoor
end
/- package client: NewBase, Base.Cell. -/
section
namespace Go.Proofs.YtppihkneeolomaaDoor
open Go.RowKit Qs Qh
def z8 : List Int := [0, 0, 0, 0, 0, 0, 0, 0]
theorem rowInfo : (Tryd.prog.info? 23).map (fun i => (i.zero, i.size, i.bytes)) = some (some (.slice none 0 0), 1, 24) := by kernel_rfl
/-- The base in memory. -/
def BaseAt (w : World) (B : Nat) (iv rv : Value) : Prop := w.heap[B]? = some (.cells #[.int .i64 64, iv, rv] 79 (0, 0))
theorem one_row (u : Value) (h : u.oneCell' = true) : ∀ x ∈ [u], x.oneCell' = true := fun x hx => by rw [List.mem_singleton] at hx; subst hx; exact h
theorem replicate_push (k : Nat) (x : List Int) : List.replicate (k + 1) x = List.replicate k x ++ [x] := by rw [List.replicate_succ']
theorem BaseAt.next2 {wr w3 w4 : World} {B lo hi r : Nat} {iv rv v4 : Value} {ll : List (List Int)} {l : List Int} {bl : Nat → Nat} (hB : BaseAt wr B iv rv) (R : Rws lo hi wr rv ll bl) (hhi : hi ≤ wr.heap.size) (hlo : lo ≤ wr.heap.size) (hBl : B < lo) (hM : Mod noF wr w3)
    (hr0 : l.length ≠ 0 → hi ≤ r ∧ lo ≤ r) (hr : l.length ≠ 0 → w3.heap[r]? = some (.cells (l.map (Value.int .i64)).toArray 3 (0, 0)))
    (hown : w4.ownsRow 0 23 1 v4 (ll.length + 1) (rwV ll bl ++ [rwU l r])) (hg : w3.grownBy w4 rv.ownBlock) (hfr : ∀ g, v4.ownBlock = some g → rv.ownBlock = some g ∨ w3.heap.size ≤ g) :
    BaseAt (w4.setCell ⟨B, 2, none⟩ v4) B iv v4 ∧ (∃ bl', Rws lo (w4.setCell ⟨B, 2, none⟩ v4).heap.size (w4.setCell ⟨B, 2, none⟩ v4) v4 (ll ++ [l]) bl') ∧ Mod (fun k => k = B ∨ rv.ownBlock = some k) wr (w4.setCell ⟨B, 2, none⟩ v4) := by
  have hBs : B < wr.heap.size := lt_of_block hB
  obtain ⟨R', hM'⟩ := R.push hhi hlo hM (fun h => ⟨(hr0 h).1, (hr0 h).2, by have := (hr0 h).2; omega⟩) hr hown hg hfr (B := B) (o := 2) (fun k h _ => by omega) hBs
  have hM4 : Mod (fun x => rv.ownBlock = some x) wr w4 := hM.any.grown hg fun j hj _ => hj
  have hB4 : w4.heap[B]? = _ := hM4.heap hB fun e => by have := (R.vin B e).1; omega
  have hs : (w4.setCell ⟨B, 2, none⟩ v4).heap.size = w4.heap.size := by simp [World.setCell]
  refine ⟨?_, ⟨_, hs ▸ R'⟩, hM'⟩
  unfold BaseAt
  rw [Qh.heap_setCell_same hB4]
  rfl
theorem BaseAt.next10 {lo0 : Nat} {wr w3 w4 : World} {B lo hi r : Nat} {iv rv v4 : Value} {ll : List (List Int)} {l : List Int} {bl : Nat → Nat} (hB : BaseAt wr B iv rv) (R : Rws lo hi wr iv ll bl) (h00 : lo0 ≤ lo) (hhi : hi ≤ wr.heap.size) (hlo : lo ≤ wr.heap.size) (hBl : B < lo) (hM : Mod noF wr w3)
    (hr0 : l.length ≠ 0 → lo0 ≤ r ∧ r ≠ B ∧ (hi ≤ r ∨ r < lo)) (hr : l.length ≠ 0 → w3.heap[r]? = some (.cells (l.map (Value.int .i64)).toArray 3 (0, 0)))
    (hown : w4.ownsRow 0 23 1 v4 (ll.length + 1) (rwV ll bl ++ [rwU l r])) (hg : w3.grownBy w4 iv.ownBlock) (hfr : ∀ g, v4.ownBlock = some g → iv.ownBlock = some g ∨ w3.heap.size ≤ g) :
    BaseAt (w4.setCell ⟨B, 1, none⟩ v4) B v4 rv ∧ (∃ bl', Rws lo0 (w4.setCell ⟨B, 1, none⟩ v4).heap.size (w4.setCell ⟨B, 1, none⟩ v4) v4 (ll ++ [l]) bl') ∧ Mod (fun k => k = B ∨ iv.ownBlock = some k) wr (w4.setCell ⟨B, 1, none⟩ v4) := by
  have hBs : B < wr.heap.size := lt_of_block hB
  obtain ⟨R', hM'⟩ := R.push0 h00 hhi hlo hM hr0 hr hown hg hfr (B := B) (o := 1) (fun k h _ => by omega) hBs
  have hM4 : Mod (fun x => iv.ownBlock = some x) wr w4 := hM.any.grown hg fun j hj _ => hj
  have hB4 : w4.heap[B]? = _ := hM4.heap hB fun e => by have := (R.vin B e).1; omega
  have hs : (w4.setCell ⟨B, 1, none⟩ v4).heap.size = w4.heap.size := by simp [World.setCell]
  refine ⟨?_, ⟨_, hs ▸ R'⟩, hM'⟩
  unfold BaseAt
  rw [Qh.heap_setCell_same hB4]
  rfl
set_option maxHeartbeats 4000000 in
theorem newBase_ok (n : Nat) (hn : n ≤ 6) (w : World) : Calls Tryd.prog 37 #[.int .i64 n] w fun e w' => ∃ rv rb, e = .returned (.pointer (some ⟨w.heap.size, 0, none⟩)) ∧ Mod noF w w' ∧ BaseAt w' w.heap.size (.slice none 0 0) rv ∧ Rws (w.heap.size + 1) w'.heap.size w' rv (List.replicate n z8) rb := by
  have hmk8 : ∀ w : World, (Instr.makeSlice 23 (.int .i64 8) (.int .i64 8)).run Tryd.prog w = .ok (.slice (some ⟨w.heap.size, 0, none⟩) 8 8) (w.alloc (.cells #[.int .i64 0, .int .i64 0, .int .i64 0, .int .i64 0, .int .i64 0, .int .i64 0, .int .i64 0, .int .i64 0] 3)) := fun _ => by kernel_rfl
  obtain ⟨i0, hti, hz0, hz1, hz2⟩ := info_parts rowInfo
  go_enter Tryd.func37, Tryd.ntmps37
  go_wp2
  go_loopw [8] (fun i wr => ∃ k : Nat, k ≤ n ∧ i = .int .i64 k ∧ Mod noF w wr ∧ w.heap.size + 1 ≤ wr.heap.size ∧ ∃ rv rb, BaseAt wr w.heap.size (.slice none 0 0) rv ∧ Rws (w.heap.size + 1) wr.heap.size wr rv (List.replicate k z8) rb) (fun i _ => n - (intOf i).toNat)
  case atStart => exact ⟨0, Nat.zero_le _, rfl, (Mod.refl _ _).alloc _, by simp, .slice none 0 0, fun _ => 0, by unfold BaseAt; exact heap_alloc_new _ _, Rws.nil _ _ _ _⟩
  case round =>
    rename_i wr
    obtain ⟨k, hk, rfl, hm, hsz, rv, rb, hB, R⟩ := hrel
    have b2 : wr.cell? ⟨w.heap.size, 2, none⟩ = some rv := by rw [cell_of_heap hB]; rfl
    have bf := free_of_heap hB 2
    obtain ⟨va, vb, vc, rfl⟩ := slice_of_own R.own
    have hvb : ¬ (Value.slice va vb vc).ownBlock = some w.heap.size := fun e => by have := (R.vin _ e).1; omega
    have b3 : (wr.alloc (.cells #[.int .i64 0, .int .i64 0, .int .i64 0, .int .i64 0, .int .i64 0, .int .i64 0, .int .i64 0, .int .i64 0] 3)).cell? ⟨w.heap.size, 2, none⟩ = some (.slice va vb vc) := ((Mod.refl noF wr).alloc _).cell b2 (fun e => e)
    have b4 : ((wr.alloc (.cells #[.int .i64 0, .int .i64 0, .int .i64 0, .int .i64 0, .int .i64 0, .int .i64 0, .int .i64 0, .int .i64 0] 3)).alloc (.cells #[.slice (some ⟨wr.heap.size, 0, none⟩) 8 8] 23)).cell? ⟨w.heap.size, 2, none⟩ = some (.slice va vb vc) := (((Mod.refl noF wr).alloc _).alloc _).cell b2 (fun e => e)
    have Hm := Lib.hid hm
    have HB := Lib.hid hB
    have HR := Lib.hid R
    have Hvb := Lib.hid hvb
    clear hm hB R hvb
    by_cases hlt : k < n
    · have hd : decide ((k : Int) < (n : Int)) = true := by simp; omega
      have hbnd : k + 1 ≤ maxLen := by unfold maxLen; omega
      go_wp2
      go_region_law (refine step_append_mine _ rfl (.tmp 15) (.tmp 17) 30 rfl 23 i0 (.slice none 0 0) 1 24 Tryd.underlying30 hti hz0 hz1 hz2 rfl (by decide) _ k (rwV (List.replicate k z8) rb) rfl (by have := HR.out.own; rw [List.length_replicate] at this; exact World.ownsRow.alloc (World.ownsRow.alloc this _) _) ⟨wr.heap.size + 1, 0, none⟩ 1 1 [.slice (some ⟨wr.heap.size, 0, none⟩) 8 8] rfl rfl (by exact new_cells_at _ _ _ (by simp)) (one_row _ rfl) hbnd (by omega) ?_; intro v4 w7 hown hgr hfr _; obtain ⟨xa, xb, xc, rfl⟩ := slice_of_own hown; have Hown := Lib.hid hown; have Hgr := Lib.hid hgr; have Hfr := Lib.hid hfr; have hm7 : Mod (fun x => (Value.slice va vb vc).ownBlock = some x) wr w7 := appended hgr (((Mod.refl noF wr).drew.alloc _).alloc _); have z2 := hm7.cell b2 Hvb.out; have zf := (World.frozen?_of_block (hm7.block w.heap.size (by omega) Hvb.out)).trans bf; clear hown hgr hfr hm7)
      all_goals
        go_wp2
        go_roundw
        case rel =>
          obtain ⟨hB', ⟨rb', R'⟩, hM'⟩ := HB.out.next2 HR.out (Nat.le_refl _) hsz (by omega) (((Mod.refl noF wr).alloc _).alloc _).drew (l := z8) (r := wr.heap.size) (fun _ => ⟨Nat.le_refl _, hsz⟩) (fun _ => (((Mod.refl noF _).alloc _).drew.heap (heap_alloc_new wr _) (fun e => e))) (by rw [List.length_replicate]; exact Hown.out) Hgr.out Hfr.out
          rw [← replicate_push] at R'
          exact ⟨k + 1, by omega, by go_num, Hm.out.trans hM' (fun x hx hf => by
            rcases hf with e | e
            · omega
            · have := (HR.out.vin x e).1; omega), by have := hM'.size; omega, _, rb', hB', R'⟩
        case measure => simp [intOf]; omega
    · have hd : decide ((k : Int) < (n : Int)) = false := by simp; omega
      obtain rfl : k = n := by omega
      go_wp2
      go_ret
      exact ⟨_, _, rfl, Hm.out, HB.out, HR.out⟩
theorem word0_ok (i : Nat) (hi : i < 64) (w : World) : Calls Tryd.prog 68 #[.agg #[.int .i64 i, .int .i64 0]] w fun e w' => e = .returned (.tuple #[.int .i64 ((i : Int) + 1), .nilIface]) ∧ Mod noF w w' := by
  have d0 : decide ((i : Int) < 0) = false := by simp
  have d1 : decide ((64 : Int) ≤ (i : Int)) = false := by simp; omega
  have d2 : decide ((4294967295 : Int) < (i : Int) + 1) = false := by simp; omega
  go_enter Tryd.func68, Tryd.ntmps68
  go_wp2
  go_ret2
  exact ⟨rfl, (Mod.refl _ _).alloc _⟩
end Go.Proofs.YtppihkneeolomaaDoor
end
/- package client: Base.Cell. -/
section
namespace Go.Proofs.YtppihkneeolomaaDoor
open Go.RowKit Qs Qh
variable {w w1 w2 : World} {B lo hi r : Nat} {iv rv : Value} {ll : List (List Int)} {l : List Int} {bl : Nat → Nat}
set_option maxHeartbeats 4000000 in
theorem cell_ok0 {lo0 : Nat} (h00 : lo0 ≤ lo) (hB : BaseAt w B iv rv) (R : Rws lo hi w iv ll bl) (hhi : hi ≤ w.heap.size) (hlo : lo ≤ w.heap.size) (hBl : B < lo) (h64 : ll.length < 64)
    (hr0 : l.length ≠ 0 → lo0 ≤ r ∧ r ≠ B ∧ (hi ≤ r ∨ r < lo)) (hr : l.length ≠ 0 → w.heap[r]? = some (.cells (l.map (Value.int .i64)).toArray 3 (0, 0))) :
    Calls Tryd.prog 38 #[.pointer (some ⟨B, 0, none⟩), rwU l r] w fun e w' => e = .returned (.int .i64 ((ll.length : Int) + 1)) ∧ ∃ iv', BaseAt w' B iv' rv ∧ (∃ bl', Rws lo0 w'.heap.size w' iv' (ll ++ [l]) bl') ∧ Mod (fun k => k = B ∨ iv.ownBlock = some k) w w' := by
  obtain ⟨i0, hti, hz0, hz1, hz2⟩ := info_parts rowInfo
  obtain ⟨va, vb, vc, rfl⟩ := slice_of_own R.own
  have hvb : ¬ (Value.slice va vb vc).ownBlock = some B := fun e => by have := (R.vin _ e).1; omega
  have hBs : B < w.heap.size := lt_of_block hB
  have hlen : vb = ll.length := by
    rcases R.own.2 with ⟨e, h0⟩ | ⟨g, cap, cur, e, _⟩
    · cases e; exact h0.symm
    · cases e; rfl
  subst hlen
  have c1 : w.cell? ⟨B, 1, none⟩ = some (.slice va ll.length vc) := by rw [cell_of_heap hB]; rfl
  have hcall := word0_ok ll.length h64 w
  have HB := Lib.hid hB
  have HR := Lib.hid R
  have Hvb := Lib.hid hvb
  have Hr := Lib.hid hr
  have Hr0 := Lib.hid hr0
  have Hcall := Lib.hid hcall
  have hbnd : ll.length + 1 ≤ maxLen := by unfold maxLen; omega
  have hone : (rwU l r).oneCell' = true := by unfold rwU; split <;> rfl
  obtain ⟨ua, ub, uc, hu⟩ : ∃ ua ub uc, Value.slice ua ub uc = rwU l r := by unfold rwU; split <;> exact ⟨_, _, _, rfl⟩
  rw [← hu] at hone ⊢
  have Hu := Lib.hid hu
  clear hB R hvb hr hr0 hcall hu
  go_enter Tryd.func38, Tryd.ntmps38
  go_wp2_with fail
  refine Hcall.out.mono ?_
  rintro e w1 ⟨rfl, hm1⟩
  have d1 := hm1.cell c1 (fun e => e)
  have df := (World.frozen?_of_block (hm1.block B hBs (fun e => e))).trans (free_of_heap HB.out 1)
  have hs1 := hm1.size
  have Hm1 := Lib.hid hm1
  clear hm1 Hcall c1
  go_wp2_with (at_builtin; refine wpList_append_mine _ rfl (.tmp 23) (.tmp 25) 30 rfl 23 i0 (.slice none 0 0) 1 24 Tryd.underlying30 hti hz0 hz1 hz2 rfl (by decide) _ ll.length (rwV ll bl) rfl (by exact World.ownsRow.alloc (owns_keep HR.out.own Hm1.out) _) ⟨w1.heap.size, 0, none⟩ 1 1 [.slice ua ub uc] rfl rfl (by exact new_cells_at _ _ _ (by simp)) (one_row _ hone) hbnd (by omega) ?_; intro v4 w7 hown hgr hfr _; obtain ⟨xa, xb, xc, rfl⟩ := slice_of_own hown; have Hown := Lib.hid hown; have hgr2 : (w1.alloc (.cells #[.slice ua ub uc] 23)).grownBy w7 (Value.slice va ll.length vc).ownBlock := hgr; have hfr2 : ∀ g, (Value.slice xa xb xc).ownBlock = some g → (Value.slice va ll.length vc).ownBlock = some g ∨ (w1.alloc (.cells #[.slice ua ub uc] 23)).heap.size ≤ g := hfr; have Hgr := Lib.hid hgr2; have Hfr := Lib.hid hfr2; have hm7 : Mod (fun x => (Value.slice va ll.length vc).ownBlock = some x) w1 w7 := appended hgr ((Mod.refl noF w1).alloc _); have z2 := hm7.cell d1 Hvb.out; have zf := (World.frozen?_of_block (hm7.block B (by omega) Hvb.out)).trans df; clear hown hgr hgr2 hfr2 hfr hm7)
  have hn := Hown.out
  rw [Hu.out] at hn
  obtain ⟨hB', ⟨bl', R'⟩, hM'⟩ := HB.out.next10 (w3 := w1.alloc (.cells #[.slice ua ub uc] 23)) (w4 := w7) (v4 := .slice xa xb xc) (l := l) (r := r) HR.out h00 hhi hlo hBl (Hm1.out.alloc _) Hr0.out (fun h => (Hm1.out.alloc _).heap (Hr.out h) (fun e => e)) hn Hgr.out Hfr.out
  go_ret
  exact ⟨rfl, _, hB', ⟨_, R'⟩, hM'⟩
theorem cell_ok (hB : BaseAt w B iv rv) (R : Rws lo hi w iv ll bl) (hhi : hi ≤ w.heap.size) (hlo : lo ≤ w.heap.size) (hBl : B < lo) (h64 : ll.length < 64)
    (hr0 : l.length ≠ 0 → hi ≤ r ∧ lo ≤ r) (hr : l.length ≠ 0 → w.heap[r]? = some (.cells (l.map (Value.int .i64)).toArray 3 (0, 0))) :
    Calls Tryd.prog 38 #[.pointer (some ⟨B, 0, none⟩), rwU l r] w fun e w' => e = .returned (.int .i64 ((ll.length : Int) + 1)) ∧ ∃ iv', BaseAt w' B iv' rv ∧ (∃ bl', Rws lo w'.heap.size w' iv' (ll ++ [l]) bl') ∧ Mod (fun k => k = B ∨ iv.ownBlock = some k) w w' :=
  cell_ok0 (Nat.le_refl lo) hB R hhi hlo hBl h64 (fun h => ⟨(hr0 h).2, by have := (hr0 h).2; omega, .inl (hr0 h).1⟩) hr
end Go.Proofs.YtppihkneeolomaaDoor
end
/- stack.Check: lists of ops that are right. -/
section
namespace Go.Proofs.YtppihkneeolomaaDoor
open Go.RowKit Qs Qh
def putS : ByteArray := ⟨#[112, 117, 116]⟩
def takeS : ByteArray := ⟨#[116, 97, 107, 101]⟩
def opK : Qu.Op → ByteArray
  | .put _ => putS
  | .take => takeS
def opN : Qu.Op → Int
  | .put n => n
  | .take => 0
/-- A thread's ops in memory, read only, in blocks below a bound. -/
def OpRow (N : Nat) (w : World) (u : Value) (l : List Qu.Op) : Prop :=
  ∃ a c, u = .slice a l.length c ∧ ∀ (i : Nat) x, l[i]? = some x → ∃ b off, a = some ⟨b, off, none⟩ ∧ b < N ∧ w.cell? ⟨b, off + i * 2, none⟩ = some (.string (opK x)) ∧ w.cell? ⟨b, off + i * 2 + 1, none⟩ = some (.int .i64 (opN x))
def OpsIn (N : Nat) (w : World) (v : Value) (ll : List (List Qu.Op)) : Prop :=
  ∃ a c, v = .slice a ll.length c ∧ ∀ (i : Nat) l, ll[i]? = some l → ∃ b off u, a = some ⟨b, off, none⟩ ∧ b < N ∧ w.cell? ⟨b, off + i, none⟩ = some u ∧ OpRow N w u l
variable {N : Nat} {w w' : World} {v u : Value} {ll : List (List Qu.Op)} {l : List Qu.Op}
theorem OpRow.keep (h : OpRow N w u l) {F : Nat → Prop} (hM : Mod F w w') (hF : ∀ b, b < N → ¬ F b) : OpRow N w' u l := by
  obtain ⟨a, c, e, hx⟩ := h
  refine ⟨a, c, e, fun i x hi => ?_⟩
  obtain ⟨b, off, e1, hb, h0, h1⟩ := hx i x hi
  exact ⟨b, off, e1, hb, hM.cell h0 (hF b hb), hM.cell h1 (hF b hb)⟩
theorem OpsIn.keep (h : OpsIn N w v ll) {F : Nat → Prop} (hM : Mod F w w') (hF : ∀ b, b < N → ¬ F b) : OpsIn N w' v ll := by
  obtain ⟨a, c, e, hx⟩ := h
  refine ⟨a, c, e, fun i x hi => ?_⟩
  obtain ⟨b, off, u, e1, hb, h0, h1⟩ := hx i x hi
  exact ⟨b, off, u, e1, hb, hM.cell h0 (hF b hb), h1.keep hM hF⟩
theorem take_take : (takeS.toList == takeS.toList) = true := by simp
end Go.Proofs.YtppihkneeolomaaDoor
end
/- Lists of ops, made in memory. -/
section
namespace Go.Proofs.YtppihkneeolomaaDoor
open Go.RowKit Qs Qh
variable {N k S : Nat} {w w1 w' : World} {v u cv cv' : Value} {ll : List (List Qu.Op)} {l : List Qu.Op} {cs : Nat → List Qu.Op} {vk : Nat → Value}
theorem OpRow.frame (h : OpRow N w u l) {F : Nat → Prop} (hM : Mod F w w') (hF : ∀ b, u.ownBlock = some b → ¬ F b) : OpRow N w' u l := by
  obtain ⟨a, c, rfl, hx⟩ := h
  refine ⟨a, c, rfl, fun i x hi => ?_⟩
  obtain ⟨b, off, rfl, hb, h0, h1⟩ := hx i x hi
  exact ⟨b, off, rfl, hb, hM.cell h0 (hF b rfl), hM.cell h1 (hF b rfl)⟩
theorem OpRow.mono (h : OpRow N w u l) {N' : Nat} (hN : N ≤ N') : OpRow N' w u l := by
  obtain ⟨a, c, e, hx⟩ := h
  refine ⟨a, c, e, fun i x hi => ?_⟩
  obtain ⟨b, off, e1, hb, h⟩ := hx i x hi
  exact ⟨b, off, e1, Nat.lt_of_lt_of_le hb hN, h⟩
end Go.Proofs.YtppihkneeolomaaDoor
end
/- Lists of ops as they come in: any name, any number. -/
section
namespace Go.Proofs.YtppihkneeolomaaDoor
open Go.RowKit Qs Qh
abbrev ROp := ByteArray × Int
/-- A thread's ops in memory, read only, in blocks below a bound. -/
def RRow (N : Nat) (w : World) (u : Value) (l : List ROp) : Prop :=
  ∃ a c, u = .slice a l.length c ∧ ∀ (i : Nat) x, l[i]? = some x → ∃ b off, a = some ⟨b, off, none⟩ ∧ b < N ∧ w.cell? ⟨b, off + i * 2, none⟩ = some (.string x.1) ∧ w.cell? ⟨b, off + i * 2 + 1, none⟩ = some (.int .i64 x.2)
def RIn (N : Nat) (w : World) (v : Value) (ll : List (List ROp)) : Prop :=
  ∃ a c, v = .slice a ll.length c ∧ ∀ (i : Nat) l, ll[i]? = some l → ∃ b off u, a = some ⟨b, off, none⟩ ∧ b < N ∧ w.cell? ⟨b, off + i, none⟩ = some u ∧ RRow N w u l
variable {N : Nat} {w w' : World} {v u : Value} {ll : List (List ROp)} {l : List ROp}
theorem RRow.keep (h : RRow N w u l) {F : Nat → Prop} (hM : Mod F w w') (hF : ∀ b, b < N → ¬ F b) : RRow N w' u l := by
  obtain ⟨a, c, e, hx⟩ := h
  refine ⟨a, c, e, fun i x hi => ?_⟩
  obtain ⟨b, off, e1, hb, h0, h1⟩ := hx i x hi
  exact ⟨b, off, e1, hb, hM.cell h0 (hF b hb), hM.cell h1 (hF b hb)⟩
theorem RIn.keep (h : RIn N w v ll) {F : Nat → Prop} (hM : Mod F w w') (hF : ∀ b, b < N → ¬ F b) : RIn N w' v ll := by
  obtain ⟨a, c, e, hx⟩ := h
  refine ⟨a, c, e, fun i x hi => ?_⟩
  obtain ⟨b, off, u, e1, hb, h0, h1⟩ := hx i x hi
  exact ⟨b, off, u, e1, hb, hM.cell h0 (hF b hb), h1.keep hM hF⟩
/-- An op as it comes in. -/
def opR (x : Qu.Op) : ROp := (opK x, opN x)
theorem RRow.ops {q : List Qu.Op} (h : RRow N w u (q.map opR)) : OpRow N w u q := by
  obtain ⟨a, c, e, hx⟩ := h
  refine ⟨a, c, by rw [e, List.length_map], fun i x hi => ?_⟩
  exact hx i (opR x) (by rw [List.getElem?_map, hi]; rfl)
theorem RIn.ops {q : List (List Qu.Op)} (h : RIn N w v (q.map (·.map opR))) : OpsIn N w v q := by
  obtain ⟨a, c, e, hx⟩ := h
  refine ⟨a, c, by rw [e, List.length_map], fun i l hi => ?_⟩
  obtain ⟨b, off, u, e1, hb, h0, h1⟩ := hx i (l.map opR) (by rw [List.getElem?_map, hi]; rfl)
  exact ⟨b, off, u, e1, hb, h0, h1.ops⟩
end Go.Proofs.YtppihkneeolomaaDoor
end
/- quiescentref2.Many, KindsFault: over any lists of ops. -/
section
namespace Go.Proofs.YtppihkneeolomaaDoor
open Go.RowKit Qs Qh
variable {N : Nat} {w w' : World} {v u : Value} {ll : List (List ROp)} {l : List ROp}
def manyB (ll : List (List ROp)) : Bool := decide (1 ≤ ll.length) && decide (ll.length ≤ 6) && ll.all fun l => decide (l.length ≤ 20)
set_option maxHeartbeats 4000000 in
theorem many_any (H : RIn N w v ll) (hlen : ll.length ≤ 10) (hrow : ∀ l ∈ ll, l.length ≤ 30) : Calls Tryd.prog 33 #[v] w fun e w' => e = .returned (.bool (manyB ll)) ∧ w' = w := by
  obtain ⟨a, c, rfl, hx⟩ := H
  have Hx := Lib.hid hx
  have Hrow := Lib.hid hrow
  clear hx hrow
  by_cases h1 : ll.length < 1
  · have hd : decide ((ll.length : Int) < 1) = true := by simp; omega
    have hb : manyB ll = false := by unfold manyB; simp; omega
    rw [hb]
    go_enter Tryd.func33, Tryd.ntmps33
    go_wp2
    go_ret
    exact ⟨rfl, rfl⟩
  have hd1 : decide ((ll.length : Int) < 1) = false := by simp; omega
  by_cases h6 : 6 < ll.length
  · have hd : decide ((6 : Int) < (ll.length : Int)) = true := by simp; omega
    have hb : manyB ll = false := by unfold manyB; simp; omega
    rw [hb]
    go_enter Tryd.func33, Tryd.ntmps33
    go_wp2
    go_ret
    exact ⟨rfl, rfl⟩
  have hd2 : decide ((6 : Int) < (ll.length : Int)) = false := by simp; omega
  have hb : manyB ll = ll.all fun l => decide (l.length ≤ 20) := by
    unfold manyB
    rw [decide_eq_true (show 1 ≤ ll.length by omega), decide_eq_true (show ll.length ≤ 6 by omega)]; rfl
  rw [hb]
  clear hb
  generalize hres : (ll.all fun l => decide (l.length ≤ 20)) = res at *
  have Hres := Lib.hid hres
  clear hres
  go_enter Tryd.func33, Tryd.ntmps33
  go_wp2
  go_loop [3] (fun i => ∃ k : Nat, k ≤ ll.length ∧ i = .int .i64 k ∧ ∀ (j : Nat) l, j < k → ll[j]? = some l → l.length ≤ 20) (fun i => ll.length - (intOf i).toNat)
  case atStart => exact ⟨0, Nat.zero_le _, rfl, fun j l h => by omega⟩
  case round =>
    obtain ⟨k, hk, rfl, hall⟩ := hrel
    have Hall := Lib.hid hall
    clear hall
    by_cases hlt : k < ll.length
    · have hd3 : decide ((k : Int) < (ll.length : Int)) = true := by simp; omega
      have hki : (k : Int) < (ll.length : Int) := by omega
      obtain ⟨l, hl⟩ : ∃ l, ll[k]? = some l := ⟨_, List.getElem?_eq_getElem hlt⟩
      obtain ⟨b, off, u, rfl, hb, hc, ⟨ua, uc, rfl, -⟩⟩ := Hx.out k l hl
      have Hl := Lib.hid hl
      clear hl
      by_cases h20 : 20 < l.length
      · have hd4 : decide ((20 : Int) < (l.length : Int)) = true := by simp; omega
        have hres : res = false := by
          rw [← Hres.out]
          rw [List.all_eq_false]
          exact ⟨l, List.mem_of_getElem? Hl.out, by simp; omega⟩
        subst hres
        go_wp2
        go_ret
        exact ⟨rfl, rfl⟩
      · have hd4 : decide ((20 : Int) < (l.length : Int)) = false := by simp; omega
        go_wp2
        go_round
        case rel =>
          refine ⟨k + 1, by omega, by go_num, fun j y hj hy => ?_⟩
          by_cases e : j = k
          · subst e
            rw [Hl.out] at hy; cases hy
            omega
          · exact Hall.out j y (by omega) hy
        case measure => simp [intOf]; omega
    · have hd3 : decide ((k : Int) < (ll.length : Int)) = false := by simp; omega
      have hres : res = true := by
        rw [← Hres.out, List.all_eq_true]
        intro l hl
        obtain ⟨i, hi⟩ := List.getElem?_of_mem hl
        have := Hall.out i l (by have := (List.getElem?_eq_some_iff.1 hi).1; omega) hi
        simpa using this
      subst hres
      go_wp2
      go_ret
      exact ⟨rfl, rfl⟩
theorem bare_ok (c : Int) (w : World) : Calls Tryd.prog 34 #[.int .i64 c] w fun e w' => e = .returned (.agg #[.int .i64 c, .int .i64 (-1)]) ∧ Mod noF w w' := by
  go_enter Tryd.func34, Tryd.ntmps34
  go_wp2
  exact bodyPost_ret (v := .agg #[.int .i64 c, .int .i64 (-1)]) (by simp [results, Tryd.results34, go_sem]) rfl ⟨rfl, (Mod.refl _ _).alloc _⟩
theorem fine_ok (w : World) : Calls Tryd.prog 35 #[] w fun e w' => e = .returned (.agg #[.int .i64 0, .int .i64 (-1)]) ∧ Mod noF w w' := by
  go_enter Tryd.func35, Tryd.ntmps35
  go_wp2
  exact bodyPost_ret (v := .agg #[.int .i64 0, .int .i64 (-1)]) (by simp [results, Tryd.results35, go_sem]) rfl ⟨rfl, (Mod.refl _ _).alloc _⟩
end Go.Proofs.YtppihkneeolomaaDoor
end
/- (*quiescentref1.Memory).Fence. -/
section
namespace Go.Proofs.YtppihkneeolomaaDoor
open Go.RowKit Qs Qh
variable {K : Nat → Bool} {w : World} {L : Lay} {m : M} {N : Int}
/-- Behind some drains of a thread. -/
def Fenced (K : Nat → Bool) (w : World) (L : Lay) (m : M) (t : Nat) (l : List Wt) (k : Nat) (n : Value) (wr : World) : Prop :=
  ∃ pre r Lq, l = pre ++ r ∧ r.length = k ∧ n = .int .i64 ((drainAll m.cells pre).2 : Nat) ∧ Up ty K w L m wr Lq { m with cells := (drainAll m.cells pre).1, waits := m.waits.set t r }
set_option maxRecDepth 100000 in
set_option maxHeartbeats 1000000 in
theorem memFence_any (R : Rep ty K w L m) (h1 : K 1 = true) (h2 : K 2 = true) (h3 : K 3 = true) (h6 : K 6 = true) (h7 : K 7 = true) (om : OkM N m) (ol : OkL L m) (hN : N ≤ 1000000000000) (t : Nat) {l : List Wt} (hl : m.waits[t]? = some l) :
    Calls Tryd.prog 112 #[.pointer (some ⟨L.blk 1 0, 0, none⟩), .int .i64 t] w fun e w' =>
      e = .returned (.int .i64 ((drainAll m.cells l).2 : Nat)) ∧ ∃ L', Up ty K w L m w' L' { m with cells := (drainAll m.cells l).1, waits := m.waits.set t [] } := by
  have ht : t < m.waits.length := (List.getElem?_eq_some_iff.1 hl).1
  have hwl := om.waits
  have hl8 := om.wlen t l hl
  have Hl := Lib.hid hl
  have HR := Lib.hid R
  have Hom := Lib.hid om
  have Hol := Lib.hid ol
  clear hl R om ol
  go_enter Tryd.func112, Tryd.ntmps112
  go_wp2
  go_loopg [5] l.length (fun k n wr => Fenced K w L m t l k n wr)
  case atStart =>
    refine ⟨[], l, L, rfl, rfl, rfl, ?_⟩
    rw [set_back Hl.out]
    exact Up.refl HR.out Hol.out
  case round =>
    obtain ⟨pre, r, Lq, hlq, hrk, rfl, hU⟩ := hrel
    have hwq : (m.waits.set t r)[t]? = some r := by simp [ht]
    have e1 : Lq.blk 1 0 = L.blk 1 0 := (hU.ext.same 1 0 (by omega) (by omega)).1
    have hval := Hom.out.wval t l Hl.out
    have omq : OkM N { m with cells := (drainAll m.cells pre).1, waits := m.waits.set t r } := by
      have o1 := drainAll_ok pre Hom.out (fun x hx => (hval x (by rw [hlq]; simp [hx])).1)
      exact o1.setWaits (by rw [hlq] at hl8; simp at hl8; omega) (fun x hx => by simpa [drainAll_length] using hval x (by rw [hlq]; simp [hx]))
    have c0 := hU.rep.waits_at h1 hU.ok
    have c1 := waits_row hU.rep h3 hU.ok (t := t) hwq
    have hsp3 := hU.ok.sp3
    rw [e1] at c0
    simp only [List.length_set] at c0 hsp3
    have hcount := drainAll_le pre m.cells
    have hpl : pre.length ≤ 8 := by rw [hlq] at hl8; simp at hl8; omega
    generalize hnf : (drainAll m.cells pre).2 = nf at *
    have hnf8 : nf ≤ 8 := by omega
    have Hnf := Lib.hid hnf
    have HU := Lib.hid hU
    have Homq := Lib.hid omq
    have Hlq := Lib.hid hlq
    have E1 := Lib.hid e1
    have Hwq := Lib.hid hwq
    have Hrk := Lib.hid hrk
    clear hnf hU omq hlq e1 hwq hval hrk hcount hpl
    cases r with
    | nil =>
      have hrow : ∃ sa sc, Lq.row 7 t 0 = .slice sa 0 sc := by
        unfold Lay.row
        cases h : Lq.nil 7 t with
        | true => exact ⟨none, 0, rfl⟩
        | false => exact ⟨_, _, rfl⟩
      obtain ⟨sa, sc, hrow⟩ := hrow
      rw [List.length_nil, hrow] at c1
      clear hrow
      go_wp2
      go_ret
      have hlp : l = pre := by have := Hlq.out; simpa using this
      refine ⟨ret_int (by rw [hlp, Hnf.out]), Lq, ?_⟩
      rw [hlp]; exact HU.out
    | cons x r =>
      have hn : Lq.nil 7 t = false := by
        cases h : Lq.nil 7 t with
        | false => rfl
        | true => have := HU.out.ok.n7 t _ Hwq.out h; cases this
      rw [row_some hn] at c1
      simp only [List.length_cons] at c1
      have hcall := drain_some HU.out.rep h1 h2 h3 h6 h7 Homq.out HU.out.ok hN t Hwq.out
      rw [E1.out] at hcall
      have Hcall := Lib.hid hcall
      have hde : drainE (drainAll m.cells pre).1 x = 0 ∨ drainE (drainAll m.cells pre).1 x = 7 := by unfold drainE; split <;> simp
      clear hn hcall
      rcases hde with hde | hde
      · have hb : (drain1 (drainAll m.cells pre).1 x).2 = false := by
          rw [drain1_bad]
          unfold drainE at hde
          cases h : hereIn (drainAll m.cells pre).1 x.c x.g with
          | true => rfl
          | false => rw [h] at hde; simp at hde
        have Hb := Lib.hid hb
        have Hde := Lib.hid hde
        clear hde hb
        go_wp2_with (go_at_call 88; refine Hcall.out.mono ?_; rintro e w5 ⟨rfl, L5, hU5⟩; rw [show drainE _ x = _ from Hde.out])
        go_roundg r.length
        case measure => have := Hrk.out; simp at this; omega
        case rel =>
          refine ⟨pre ++ [x], r, L5, by rw [Hlq.out]; simp, rfl, ?_, ?_⟩
          · rw [drainAll_snoc, Hb.out, Hnf.out]; rfl
          · rw [drainAll_snoc]
            have := HU.out.trans hU5
            simp only [List.set_set] at this
            exact this
      · have hb : (drain1 (drainAll m.cells pre).1 x).2 = true := by
          rw [drain1_bad]
          unfold drainE at hde
          cases h : hereIn (drainAll m.cells pre).1 x.c x.g with
          | true => rw [h] at hde; simp at hde
          | false => rfl
        have Hb := Lib.hid hb
        have Hde := Lib.hid hde
        clear hde hb
        go_wp2_with (go_at_call 88; refine Hcall.out.mono ?_; rintro e w5 ⟨rfl, L5, hU5⟩; rw [show drainE _ x = _ from Hde.out])
        go_roundg r.length
        case measure => have := Hrk.out; simp at this; omega
        case rel =>
          refine ⟨pre ++ [x], r, L5, by rw [Hlq.out]; simp, rfl, ?_, ?_⟩
          · rw [drainAll_snoc, Hb.out, Hnf.out]; simp
          · rw [drainAll_snoc]
            have := HU.out.trans hU5
            simp only [List.set_set] at this
            exact this
end Go.Proofs.YtppihkneeolomaaDoor
end
/- A list of numbers that its maker owns. -/
section
namespace Go.Proofs.YtppihkneeolomaaDoor
open Go.RowKit Qs Qh
/-- A list of numbers that its maker owns. -/
def IOwn (w : World) (x : Value) (l : List Int) : Prop := w.ownsRow 0 3 1 x l.length (l.map (Value.int .i64))
variable {w w1 : World} {x : Value} {z : List Int}
theorem IOwn.nil (w : World) : IOwn w (.slice none 0 0) [] := World.ownsRow_nil w 0 _ 1
theorem IOwn.lt (h : IOwn w x z) {g : Nat} (hg : x.ownBlock = some g) : g < w.heap.size := (World.ownsRow.lt h g hg).2
theorem IOwn.keep (h : IOwn w x z) {F : Nat → Prop} (hM : Mod F w w1) (hF : ∀ g, x.ownBlock = some g → ¬ F g) : IOwn w1 x z := by
  refine ⟨h.1, ?_⟩
  rcases h.2 with e | ⟨g, cap, cur, rfl, h0, hg, r⟩
  · exact .inl e
  · exact .inr ⟨g, cap, cur, rfl, h0, hM.heap hg (hF g rfl), r⟩
theorem IOwn.ints (h : IOwn w x z) : IntsAt w x z := by
  rcases h.2 with ⟨rfl, h0⟩ | ⟨g, cap, cur, rfl, _, hg, h1, h2, h3, h4⟩
  · exact ⟨none, 0, by rw [h0], by omega, fun i y hi => by have := (List.getElem?_eq_some_iff.1 hi).1; omega⟩
  · refine ⟨_, cap, rfl, Nat.le_trans h1 h2, fun i y hi => ⟨g, 0, rfl, lt_of_block hg, ?_⟩⟩
    have hlt := (List.getElem?_eq_some_iff.1 hi).1
    rw [cell_of_heap hg, Nat.zero_add]
    have e : cur[i]? = (cur.toList.take (z.length * 1))[i]? := by
      rw [List.getElem?_take, if_pos (by omega)]; simp
    rw [e, h4, List.getElem?_map, hi]; rfl
theorem IOwn.snoc {y : Int} (h : w.ownsRow 0 3 1 x (z.length + 1) (z.map (Value.int .i64) ++ [.int .i64 y])) : IOwn w x (z ++ [y]) := by
  unfold IOwn
  rw [List.length_append, List.map_append]
  exact h
theorem int_one (y : Int) : ∀ u ∈ [Value.int .i64 y], u.oneCell' = true := one_row _ rfl
theorem intInfo4 : (Tryd.prog.info? 3).map (fun i => (i.zero, i.size, i.bytes)) = some (some (.int .i64 0), 1, 8) := by kernel_rfl
end Go.Proofs.YtppihkneeolomaaDoor
end
/- Lists of any ops, made in memory. -/
section
namespace Go.Proofs.YtppihkneeolomaaDoor
open Go.RowKit Qs Qh
variable {N k S : Nat} {w w1 w' : World} {v u cv cv' : Value} {ll : List (List ROp)} {l : List ROp} {cs : Nat → List ROp} {vk : Nat → Value}
theorem RRow.frame (h : RRow N w u l) {F : Nat → Prop} (hM : Mod F w w') (hF : ∀ b, u.ownBlock = some b → ¬ F b) : RRow N w' u l := by
  obtain ⟨a, c, rfl, hx⟩ := h
  refine ⟨a, c, rfl, fun i x hi => ?_⟩
  obtain ⟨b, off, rfl, hb, h0, h1⟩ := hx i x hi
  exact ⟨b, off, rfl, hb, hM.cell h0 (hF b rfl), hM.cell h1 (hF b rfl)⟩
theorem RRow.mono (h : RRow N w u l) {N' : Nat} (hN : N ≤ N') : RRow N' w u l := by
  obtain ⟨a, c, e, hx⟩ := h
  refine ⟨a, c, e, fun i x hi => ?_⟩
  obtain ⟨b, off, e1, hb, h⟩ := hx i x hi
  exact ⟨b, off, e1, Nat.lt_of_lt_of_le hb hN, h⟩
def rV (_ : Nat) (x : ROp) : List Value := [.string (x.1), .int .i64 (x.2)]
theorem rRow_own {T : TypeId} (h : w.ownsRow 0 T 2 u l.length (flat rV 0 l)) : RRow w.heap.size w u l := by
  rcases h.2 with ⟨rfl, h0⟩ | ⟨g, cap, cur, rfl, _, hg, h1, h2, h3, h4⟩
  · exact ⟨none, 0, by rw [h0], fun i x hi => by have := (List.getElem?_eq_some_iff.1 hi).1; omega⟩
  · refine ⟨_, cap, rfl, fun i x hi => ⟨g, 0, rfl, lt_of_block hg, ?_, ?_⟩⟩
    all_goals
      have hlt : i < l.length := (List.getElem?_eq_some_iff.1 hi).1
      have key : ∀ j, j < 2 → cur[i * 2 + j]? = (rV 0 x)[j]? := fun j hj => by
        have hgt := flat_get rV 2 (fun _ _ => rfl) hj l 0 i x hi []
        rw [List.append_nil] at hgt
        have e : cur[i * 2 + j]? = (cur.toList.take (l.length * 2))[i * 2 + j]? := by
          rw [List.getElem?_take, if_pos (by omega)]; simp
        rw [e, h4, hgt]; rfl
    · have := key 0 (by omega)
      rw [cell_of_heap hg, Nat.zero_add]; exact this
    · have := key 1 (by omega)
      rw [cell_of_heap hg, Nat.zero_add]; exact this
end Go.Proofs.YtppihkneeolomaaDoor
end
/- package queue: rows set, codes made. -/
section
namespace Go.Proofs.YtppihkneeolomaaDoor
open Go.RowKit Qs Qh
variable {lo hi k j : Nat} {w w1 w' : World} {v : Value} {ll : List (List Int)} {l : List Int} {bl : Nat → Nat} {x : Int}
theorem rwU_len {l l' : List Int} (h : l'.length = l.length) (b : Nat) : rwU l' b = rwU l b := by unfold rwU; rw [h]
theorem rwV_set (hl : ll[k]? = some l) {l' : List Int} (h : l'.length = l.length) : rwV (ll.set k l') bl = rwV ll bl := by
  unfold rwV
  refine List.ext_getElem? fun i => ?_
  rw [List.getElem?_mapIdx, List.getElem?_mapIdx, List.getElem?_set]
  by_cases e : k = i
  · subst e
    have hlt := (List.getElem?_eq_some_iff.1 hl).1
    rw [if_pos rfl, if_pos hlt, hl]
    simp [rwU_len h]
  · rw [if_neg e]
theorem Rws.set (R : Rws lo hi w v ll bl) (hl : ll[k]? = some l) (hj : j < l.length) : Rws lo hi (w.setCell ⟨bl k, j, none⟩ (.int .i64 x)) v (ll.set k (l.set j x)) bl ∧ Mod (fun b => b = bl k) w (w.setCell ⟨bl k, j, none⟩ (.int .i64 x)) := by
  have hM : Mod (fun b => b = bl k) w (w.setCell ⟨bl k, j, none⟩ (.int .i64 x)) := (Mod.refl (fun b => b = bl k) w).setCell (fun _ => rfl) _
  have hl0 : l.length ≠ 0 := by omega
  have hget : ∀ {i : Nat} {y : List Int}, (ll.set k (l.set j x))[i]? = some y → (i = k ∧ y = l.set j x) ∨ (i ≠ k ∧ ll[i]? = some y) := fun {i y} h => by
    rw [List.getElem?_set] at h
    by_cases e : k = i
    · rw [if_pos e] at h
      split at h
      · exact .inl ⟨e.symm, (Option.some.inj h).symm⟩
      · cases h
    · rw [if_neg e] at h; exact .inr ⟨fun h => e h.symm, h⟩
  have hsame : ∀ {i : Nat} {y : List Int}, (ll.set k (l.set j x))[i]? = some y → y.length ≠ 0 → ∃ z, ll[i]? = some z ∧ z.length ≠ 0 := fun {i y} h h0 => by
    rcases hget h with ⟨rfl, rfl⟩ | ⟨_, h⟩
    · exact ⟨l, hl, hl0⟩
    · exact ⟨y, h, h0⟩
  refine ⟨⟨?_, fun i y h h0 => ?_, R.vin, fun i y h h0 => ?_, fun g i y hg h h0 => ?_, fun i i' y y' h1 h2 h3 h4 => ?_⟩, hM⟩
  · rw [rwV_set hl (by simp), List.length_set]
    exact ownsRow_setCell_other R.own (fun e => R.vne _ k l e hl hl0 rfl) _
  · rcases hget h with ⟨rfl, rfl⟩ | ⟨hne, h⟩
    · rw [Qh.heap_setCell_same (R.row i l hl hl0)]
      congr 2
      simp [List.map_set]
    · exact hM.heap (R.row i y h h0) fun e => hne (R.inj i k y l h hl h0 hl0 e)
  · obtain ⟨z, hz, hz0⟩ := hsame h h0; exact R.bin i z hz hz0
  · obtain ⟨z, hz, hz0⟩ := hsame h h0; exact R.vne g i z hg hz hz0
  · obtain ⟨z, hz, hz0⟩ := hsame h1 h3
    obtain ⟨z', hz', hz0'⟩ := hsame h2 h4
    exact R.inj i i' z z' hz hz' hz0 hz0'
theorem intsAt_row {w : World} {b : Nat} {l : List Int} {T : TypeId} (h : w.heap[b]? = some (.cells (l.map (Value.int .i64)).toArray T (0, 0))) (hl : l.length ≤ maxLen) : IntsAt w (.slice (some ⟨b, 0, none⟩) l.length l.length) l :=
  ⟨_, _, rfl, hl, fun i x hi => ⟨b, 0, rfl, lt_of_block h, by rw [cell_of_heap h]; simp [hi]⟩⟩
theorem intsAt_none (w : World) : IntsAt w (.slice none 0 0) [] := ⟨none, 0, rfl, Nat.zero_le _, fun i x hi => by simp at hi⟩
theorem Rws.cell (R : Rws lo hi w v ll bl) : ∃ a c, v = .slice a ll.length c ∧ ∀ (i : Nat) l, ll[i]? = some l → ∃ b, a = some ⟨b, 0, none⟩ ∧ b < w.heap.size ∧ w.cell? ⟨b, i, none⟩ = some (rwU l (bl i)) := by
  rcases R.own.2 with ⟨rfl, h0⟩ | ⟨g, cap, cur, rfl, _, hg, h1, h2, h3, h4⟩
  · exact ⟨none, 0, by rw [h0], fun i l h => by have := (List.getElem?_eq_some_iff.1 h).1; omega⟩
  · refine ⟨_, cap, rfl, fun i l h => ⟨g, rfl, lt_of_block hg, ?_⟩⟩
    have hlt := (List.getElem?_eq_some_iff.1 h).1
    rw [cell_of_heap hg]
    have e : cur[i]? = (cur.toList.take (ll.length * 1))[i]? := by
      rw [List.getElem?_take, if_pos (by omega)]; simp
    rw [e, h4]
    unfold rwV
    rw [List.getElem?_mapIdx, h]; rfl
theorem Rws.rows (R : Rws lo hi w v ll bl) (hlen : ∀ l ∈ ll, l.length ≤ 100) : Qh.RowsAt w v ll := by
  obtain ⟨a, c, e, hx⟩ := R.cell
  refine ⟨a, c, e, fun i l h => ?_⟩
  obtain ⟨b, rfl, hb, hc⟩ := hx i l h
  refine ⟨b, 0, rwU l (bl i), rfl, hb, by rw [Nat.zero_add]; exact hc, ?_, fun g hg => ?_⟩
  · unfold rwU
    split
    · rename_i h0
      obtain rfl := List.eq_nil_of_length_eq_zero h0
      exact intsAt_none w
    · rename_i h0
      exact intsAt_row (R.row i l h h0) (by have := hlen l (List.mem_of_getElem? h); unfold maxLen; omega)
  · unfold rwU at hg
    split at hg
    · cases hg
    · rename_i h0
      cases hg
      exact lt_of_block (R.row i l h h0)
/-- The codes made so far. -/
structure Cds (S : Nat) (w : World) (cv : Value) (cs : Nat → List Instr) (k : Nat) (vk : Nat → Value) : Prop where
  own : w.ownsRow 0 69 1 cv k ((List.range k).map vk)
  vin : ∀ g, cv.ownBlock = some g → S ≤ g
  at_ : ∀ i, i < k → CodeAt w (vk i) (cs i)
  bin : ∀ i g, i < k → (vk i).ownBlock = some g → S ≤ g ∧ g < w.heap.size
  ne : ∀ i g, i < k → (vk i).ownBlock = some g → cv.ownBlock ≠ some g
variable {S : Nat} {cv cv' u : Value} {cs : Nat → List Instr} {vk : Nat → Value}
theorem Cds.nil (S : Nat) (w : World) (cs : Nat → List Instr) (vk : Nat → Value) : Cds S w (.slice none 0 0) cs 0 vk :=
  ⟨World.ownsRow_nil w 0 _ 1, fun g h => (by cases h), fun i h => by omega, fun i g h => by omega, fun i g h => by omega⟩
theorem Cds.keep (C : Cds S w cv cs k vk) {F : Nat → Prop} (hM : Mod F w w1) (hF : ∀ b, S ≤ b → b < w.heap.size → ¬ F b) : Cds S w1 cv cs k vk := by
  refine ⟨⟨C.own.1, ?_⟩, C.vin, fun i hi => (C.at_ i hi).frame hM fun b hb => hF b (C.bin i b hi hb).1 (C.bin i b hi hb).2, fun i g hi hg => ⟨(C.bin i g hi hg).1, Nat.lt_of_lt_of_le (C.bin i g hi hg).2 hM.size⟩, C.ne⟩
  rcases C.own.2 with e | ⟨g, cap, cur, rfl, h0, hg, r⟩
  · exact .inl e
  · exact .inr ⟨g, cap, cur, rfl, h0, hM.heap hg (hF _ (C.vin g rfl) (lt_of_block hg)), r⟩
theorem Cds.push (C : Cds S w cv cs k vk) (hS : S ≤ w.heap.size) (hc : CodeAt w u (cs k)) (hu : ∀ g, u.ownBlock = some g → S ≤ g ∧ g < w.heap.size ∧ cv.ownBlock ≠ some g)
    (hown : w1.ownsRow 0 69 1 cv' (k + 1) ((List.range k).map vk ++ [u])) (hg : w.grownBy w1 cv.ownBlock) (hfr : ∀ g, cv'.ownBlock = some g → cv.ownBlock = some g ∨ w.heap.size ≤ g) :
    Cds S w1 cv' cs (k + 1) (fun i => if i = k then u else vk i) := by
  have hM : Mod (fun x => cv.ownBlock = some x) w w1 := (Mod.refl (fun x => cv.ownBlock = some x) w).grown hg fun j hj _ => hj
  refine ⟨?_, fun g h => ?_, fun i hi => ?_, fun i g hi h => ?_, fun i g hi h e => ?_⟩
  · have : (List.range (k + 1)).map (fun i => if i = k then u else vk i) = (List.range k).map vk ++ [u] := by
      rw [List.range_succ, List.map_append]
      congr 1
      · refine List.map_congr_left fun i hi => ?_
        have := List.mem_range.1 hi
        rw [if_neg (by omega)]
      · simp
    rw [this]; exact hown
  · rcases hfr g h with e | e
    · exact C.vin g e
    · omega
  · by_cases e : i = k
    · subst e
      simp only [if_true]
      exact hc.frame hM fun b hb e => (hu b hb).2.2 e
    · rw [if_neg e]
      exact (C.at_ i (by omega)).frame hM fun b hb e' => C.ne i b (by omega) hb e'
  · have hs := hM.size
    by_cases e : i = k
    · subst e
      simp only [if_true] at h
      have := hu g h; exact ⟨this.1, by omega⟩
    · rw [if_neg e] at h
      have := C.bin i g (by omega) h; exact ⟨this.1, by omega⟩
  · have hlt : g < w.heap.size := by
      by_cases e : i = k
      · subst e
        simp only [if_true] at h
        exact (hu g h).2.1
      · rw [if_neg e] at h
        exact (C.bin i g (by omega) h).2
    rcases hfr g e with e' | e'
    · by_cases e2 : i = k
      · subst e2
        simp only [if_true] at h
        exact (hu g h).2.2 e'
      · rw [if_neg e2] at h
        exact C.ne i g (by omega) h e'
    · omega
theorem Cds.codes (C : Cds S w cv cs k vk) : CodesAt w cv ((List.range k).map cs) vk := by
  rcases C.own.2 with ⟨rfl, h0⟩ | ⟨g, cap, cur, rfl, _, hg, h1, h2, h3, h4⟩
  · subst h0
    exact ⟨none, 0, rfl, fun i l h => by simp at h⟩
  · refine ⟨some ⟨g, 0, none⟩, cap, by simp, fun i l h => ?_⟩
    have hlt : i < k := by have := (List.getElem?_eq_some_iff.1 h).1; simpa using this
    have hl : l = cs i := by
      rw [List.getElem?_map, List.getElem?_range hlt] at h
      exact (Option.some.inj h).symm
    subst hl
    refine ⟨g, 0, rfl, lt_of_block hg, ?_, C.at_ i hlt, fun b hb => (C.bin i b hlt hb).2⟩
    rw [cell_of_heap hg, Nat.zero_add]
    have e : cur[i]? = (cur.toList.take (k * 1))[i]? := by
      rw [List.getElem?_take, if_pos (by omega)]; simp
    rw [e, h4, List.getElem?_map, List.getElem?_range hlt]; rfl
end Go.Proofs.YtppihkneeolomaaDoor
end
/- Rows by a function, turned one by one. -/
section
namespace Qc
def rowsF (g : Nat → List Int) (n : Nat) : List (List Int) := (List.range n).map g
/-- The first a rows turned. -/
def mixF (g1 g0 : Nat → List Int) (a : Nat) (i : Nat) : List Int := if i < a then g1 i else g0 i
variable {g g0 g1 : Nat → List Int} {n a : Nat}
theorem rowsF_len : (rowsF g n).length = n := by simp [rowsF]
theorem rowsF_get (h : a < n) : (rowsF g n)[a]? = some (g a) := by unfold rowsF; rw [List.getElem?_map, List.getElem?_range h]; rfl
theorem rowsF_none (h : n ≤ a) : (rowsF g n)[a]? = none := List.getElem?_eq_none (by rw [rowsF_len]; exact h)
theorem rowsF_ext (h : ∀ i, i < n → g0 i = g1 i) : rowsF g0 n = rowsF g1 n := by
  unfold rowsF
  exact List.map_congr_left fun i hi => h i (List.mem_range.1 hi)
theorem mix_zero : rowsF (mixF g1 g0 0) n = rowsF g0 n := rowsF_ext fun i _ => by unfold mixF; rw [if_neg (by omega)]
theorem mix_all : rowsF (mixF g1 g0 n) n = rowsF g1 n := rowsF_ext fun i h => by unfold mixF; rw [if_pos h]
theorem mix_get (h : a < n) : (rowsF (mixF g1 g0 a) n)[a]? = some (g0 a) := by rw [rowsF_get h]; unfold mixF; rw [if_neg (by omega)]
theorem mix_set (h : a < n) : (rowsF (mixF g1 g0 a) n).set a (g1 a) = rowsF (mixF g1 g0 (a + 1)) n := by
  refine List.ext_getElem? fun i => ?_
  rw [List.getElem?_set]
  by_cases e : a = i
  · subst e
    rw [if_pos rfl, if_pos (by rw [rowsF_len]; exact h), rowsF_get h]
    unfold mixF; rw [if_pos (by omega)]
  · rw [if_neg e]
    by_cases hi : i < n
    · rw [rowsF_get hi, rowsF_get hi]
      unfold mixF
      by_cases h2 : i < a
      · rw [if_pos h2, if_pos (by omega)]
      · rw [if_neg h2, if_neg (by omega)]
    · rw [rowsF_none (by omega), rowsF_none (by omega)]
theorem rows_replicate (z : List Int) : List.replicate n z = rowsF (fun _ => z) n := by
  unfold rowsF
  rw [List.map_const', List.length_range]
theorem rowsF_push : rowsF g n ++ [g n] = rowsF g (n + 1) := by unfold rowsF; rw [List.range_succ, List.map_append]; rfl
end Qc
end
/- package grace: cells at the beginning. -/
section
namespace Go.Proofs.YtppihkneeolomaaDoor
open Go.RowKit Qs Qh
/-- Four words in a new block. -/
def FourH (w : World) (v : Value) (z : List Int) (w' : World) : Prop := ∃ b, v = .slice (some ⟨b, 0, none⟩) 4 4 ∧ w.heap.size ≤ b ∧ w'.heap[b]? = some (.cells (z.map (Value.int .i64)).toArray 3 (0, 0)) ∧ Mod noF w w'
def ownC (f : Nat) : List Int := [if f = 3 then 1 else 0, 0, 0, 0]
def lkC (f : Nat) : Int := if f = 4 then -1 else 2
theorem hhub1 (w : World) : Calls Tryd.prog 76 #[.int .i64 1] w fun e w' => ∃ v, e = .returned (.tuple #[v, .nilIface]) ∧ FourH w v [1, 0, 0, 0] w' := by
  go_enter Tryd.func76, Tryd.ntmps76
  go_wp2_with fail
  refine (flavours1 w).mono ?_
  rintro e w1 ⟨rfl, hm1⟩
  have hs1 := hm1.size
  have Hm1 := Lib.hid hm1
  clear hm1
  go_wp2
  go_ret2
  exact ⟨_, rfl, _, rfl, by first | omega | (simp; omega), by simpa using heap_alloc_new (w1.alloc (.cells #[.string ⟨#[102, 101, 110, 99, 101]⟩, .bool true, .bool false, .bool false] 146)) (.cells #[.int .i64 1, .int .i64 0, .int .i64 0, .int .i64 0] 3), (by repeat (first | exact Hm1.out | refine Mod.drew ?_ | refine Mod.drewN ?_ _ | refine Mod.alloc ?_ _ | refine Mod.setCell ?_ (fun h => absurd h (by have := Hm1.out.size; simp at *; omega)) _))⟩
theorem hown1 (w : World) : Calls Tryd.prog 78 #[.int .i64 1] w fun e w' => ∃ v, e = .returned (.tuple #[v, .nilIface]) ∧ FourH w v [0, 0, 0, 0] w' := by
  go_enter Tryd.func78, Tryd.ntmps78
  go_wp2_with fail
  refine (flavours1 w).mono ?_
  rintro e w1 ⟨rfl, hm1⟩
  have hs1 := hm1.size
  have Hm1 := Lib.hid hm1
  clear hm1
  go_wp2
  go_ret2
  exact ⟨_, rfl, _, rfl, by first | omega | (simp; omega), by simpa using heap_alloc_new (w1.alloc (.cells #[.string ⟨#[102, 101, 110, 99, 101]⟩, .bool true, .bool false, .bool false] 146)) (.cells #[.int .i64 0, .int .i64 0, .int .i64 0, .int .i64 0] 3), (by repeat (first | exact Hm1.out | refine Mod.drew ?_ | refine Mod.drewN ?_ _ | refine Mod.alloc ?_ _ | refine Mod.setCell ?_ (fun h => absurd h (by have := Hm1.out.size; simp at *; omega)) _))⟩
theorem hlink1 (w : World) : Calls Tryd.prog 77 #[.int .i64 1] w fun e w' => e = .returned (.tuple #[.int .i64 2, .nilIface]) ∧ Mod noF w w' := by
  go_enter Tryd.func77, Tryd.ntmps77
  go_wp2_with fail
  refine (flavours1 w).mono ?_
  rintro e w1 ⟨rfl, hm1⟩
  have hs1 := hm1.size
  have Hm1 := Lib.hid hm1
  clear hm1
  go_wp2
  go_ret2
  exact ⟨rfl, (by repeat (first | exact Hm1.out | refine Mod.drew ?_ | refine Mod.drewN ?_ _ | refine Mod.alloc ?_ _ | refine Mod.setCell ?_ (fun h => absurd h (by have := Hm1.out.size; simp at *; omega)) _))⟩
theorem hhub2 (w : World) : Calls Tryd.prog 76 #[.int .i64 2] w fun e w' => ∃ v, e = .returned (.tuple #[v, .nilIface]) ∧ FourH w v [1, 0, 0, 0] w' := by
  go_enter Tryd.func76, Tryd.ntmps76
  go_wp2_with fail
  refine (flavours2 w).mono ?_
  rintro e w1 ⟨rfl, hm1⟩
  have hs1 := hm1.size
  have Hm1 := Lib.hid hm1
  clear hm1
  go_wp2
  go_ret2
  exact ⟨_, rfl, _, rfl, by first | omega | (simp; omega), by simpa using heap_alloc_new (w1.alloc (.cells #[.string ⟨#[102, 111, 114, 99, 101]⟩, .bool false, .bool false, .bool false] 146)) (.cells #[.int .i64 1, .int .i64 0, .int .i64 0, .int .i64 0] 3), (by repeat (first | exact Hm1.out | refine Mod.drew ?_ | refine Mod.drewN ?_ _ | refine Mod.alloc ?_ _ | refine Mod.setCell ?_ (fun h => absurd h (by have := Hm1.out.size; simp at *; omega)) _))⟩
theorem hown2 (w : World) : Calls Tryd.prog 78 #[.int .i64 2] w fun e w' => ∃ v, e = .returned (.tuple #[v, .nilIface]) ∧ FourH w v [0, 0, 0, 0] w' := by
  go_enter Tryd.func78, Tryd.ntmps78
  go_wp2_with fail
  refine (flavours2 w).mono ?_
  rintro e w1 ⟨rfl, hm1⟩
  have hs1 := hm1.size
  have Hm1 := Lib.hid hm1
  clear hm1
  go_wp2
  go_ret2
  exact ⟨_, rfl, _, rfl, by first | omega | (simp; omega), by simpa using heap_alloc_new (w1.alloc (.cells #[.string ⟨#[102, 111, 114, 99, 101]⟩, .bool false, .bool false, .bool false] 146)) (.cells #[.int .i64 0, .int .i64 0, .int .i64 0, .int .i64 0] 3), (by repeat (first | exact Hm1.out | refine Mod.drew ?_ | refine Mod.drewN ?_ _ | refine Mod.alloc ?_ _ | refine Mod.setCell ?_ (fun h => absurd h (by have := Hm1.out.size; simp at *; omega)) _))⟩
theorem hlink2 (w : World) : Calls Tryd.prog 77 #[.int .i64 2] w fun e w' => e = .returned (.tuple #[.int .i64 2, .nilIface]) ∧ Mod noF w w' := by
  go_enter Tryd.func77, Tryd.ntmps77
  go_wp2_with fail
  refine (flavours2 w).mono ?_
  rintro e w1 ⟨rfl, hm1⟩
  have hs1 := hm1.size
  have Hm1 := Lib.hid hm1
  clear hm1
  go_wp2
  go_ret2
  exact ⟨rfl, (by repeat (first | exact Hm1.out | refine Mod.drew ?_ | refine Mod.drewN ?_ _ | refine Mod.alloc ?_ _ | refine Mod.setCell ?_ (fun h => absurd h (by have := Hm1.out.size; simp at *; omega)) _))⟩
theorem hhub3 (w : World) : Calls Tryd.prog 76 #[.int .i64 3] w fun e w' => ∃ v, e = .returned (.tuple #[v, .nilIface]) ∧ FourH w v [1, 0, 0, 0] w' := by
  go_enter Tryd.func76, Tryd.ntmps76
  go_wp2_with fail
  refine (flavours3 w).mono ?_
  rintro e w1 ⟨rfl, hm1⟩
  have hs1 := hm1.size
  have Hm1 := Lib.hid hm1
  clear hm1
  go_wp2
  go_ret2
  exact ⟨_, rfl, _, rfl, by first | omega | (simp; omega), by simpa using heap_alloc_new (w1.alloc (.cells #[.string ⟨#[102, 101, 110, 99, 101]⟩, .bool false, .bool false, .bool true] 146)) (.cells #[.int .i64 1, .int .i64 0, .int .i64 0, .int .i64 0] 3), (by repeat (first | exact Hm1.out | refine Mod.drew ?_ | refine Mod.drewN ?_ _ | refine Mod.alloc ?_ _ | refine Mod.setCell ?_ (fun h => absurd h (by have := Hm1.out.size; simp at *; omega)) _))⟩
theorem hown3 (w : World) : Calls Tryd.prog 78 #[.int .i64 3] w fun e w' => ∃ v, e = .returned (.tuple #[v, .nilIface]) ∧ FourH w v [1, 0, 0, 0] w' := by
  go_enter Tryd.func78, Tryd.ntmps78
  go_wp2_with fail
  refine (flavours3 w).mono ?_
  rintro e w1 ⟨rfl, hm1⟩
  have hs1 := hm1.size
  have Hm1 := Lib.hid hm1
  clear hm1
  go_wp2
  go_ret2
  exact ⟨_, rfl, _, rfl, by first | omega | (simp; omega), by simpa using heap_alloc_new (w1.alloc (.cells #[.string ⟨#[102, 101, 110, 99, 101]⟩, .bool false, .bool false, .bool true] 146)) (.cells #[.int .i64 1, .int .i64 0, .int .i64 0, .int .i64 0] 3), (by repeat (first | exact Hm1.out | refine Mod.drew ?_ | refine Mod.drewN ?_ _ | refine Mod.alloc ?_ _ | refine Mod.setCell ?_ (fun h => absurd h (by have := Hm1.out.size; simp at *; omega)) _))⟩
theorem hlink3 (w : World) : Calls Tryd.prog 77 #[.int .i64 3] w fun e w' => e = .returned (.tuple #[.int .i64 2, .nilIface]) ∧ Mod noF w w' := by
  go_enter Tryd.func77, Tryd.ntmps77
  go_wp2_with fail
  refine (flavours3 w).mono ?_
  rintro e w1 ⟨rfl, hm1⟩
  have hs1 := hm1.size
  have Hm1 := Lib.hid hm1
  clear hm1
  go_wp2
  go_ret2
  exact ⟨rfl, (by repeat (first | exact Hm1.out | refine Mod.drew ?_ | refine Mod.drewN ?_ _ | refine Mod.alloc ?_ _ | refine Mod.setCell ?_ (fun h => absurd h (by have := Hm1.out.size; simp at *; omega)) _))⟩
theorem hhub4 (w : World) : Calls Tryd.prog 76 #[.int .i64 4] w fun e w' => ∃ v, e = .returned (.tuple #[v, .nilIface]) ∧ FourH w v [1, 0, 0, 0] w' := by
  go_enter Tryd.func76, Tryd.ntmps76
  go_wp2_with fail
  refine (flavours4 w).mono ?_
  rintro e w1 ⟨rfl, hm1⟩
  have hs1 := hm1.size
  have Hm1 := Lib.hid hm1
  clear hm1
  go_wp2
  go_ret2
  exact ⟨_, rfl, _, rfl, by first | omega | (simp; omega), by simpa using heap_alloc_new (w1.alloc (.cells #[.string ⟨#[102, 101, 110, 99, 101]⟩, .bool true, .bool true, .bool false] 146)) (.cells #[.int .i64 1, .int .i64 0, .int .i64 0, .int .i64 0] 3), (by repeat (first | exact Hm1.out | refine Mod.drew ?_ | refine Mod.drewN ?_ _ | refine Mod.alloc ?_ _ | refine Mod.setCell ?_ (fun h => absurd h (by have := Hm1.out.size; simp at *; omega)) _))⟩
theorem hown4 (w : World) : Calls Tryd.prog 78 #[.int .i64 4] w fun e w' => ∃ v, e = .returned (.tuple #[v, .nilIface]) ∧ FourH w v [0, 0, 0, 0] w' := by
  go_enter Tryd.func78, Tryd.ntmps78
  go_wp2_with fail
  refine (flavours4 w).mono ?_
  rintro e w1 ⟨rfl, hm1⟩
  have hs1 := hm1.size
  have Hm1 := Lib.hid hm1
  clear hm1
  go_wp2
  go_ret2
  exact ⟨_, rfl, _, rfl, by first | omega | (simp; omega), by simpa using heap_alloc_new (w1.alloc (.cells #[.string ⟨#[102, 101, 110, 99, 101]⟩, .bool true, .bool true, .bool false] 146)) (.cells #[.int .i64 0, .int .i64 0, .int .i64 0, .int .i64 0] 3), (by repeat (first | exact Hm1.out | refine Mod.drew ?_ | refine Mod.drewN ?_ _ | refine Mod.alloc ?_ _ | refine Mod.setCell ?_ (fun h => absurd h (by have := Hm1.out.size; simp at *; omega)) _))⟩
theorem hlink4 (w : World) : Calls Tryd.prog 77 #[.int .i64 4] w fun e w' => e = .returned (.tuple #[.int .i64 (-1), .nilIface]) ∧ Mod noF w w' := by
  go_enter Tryd.func77, Tryd.ntmps77
  go_wp2_with fail
  refine (flavours4 w).mono ?_
  rintro e w1 ⟨rfl, hm1⟩
  have hs1 := hm1.size
  have Hm1 := Lib.hid hm1
  clear hm1
  go_wp2
  go_ret2
  exact ⟨rfl, (by repeat (first | exact Hm1.out | refine Mod.drew ?_ | refine Mod.drewN ?_ _ | refine Mod.alloc ?_ _ | refine Mod.setCell ?_ (fun h => absurd h (by have := Hm1.out.size; simp at *; omega)) _))⟩
theorem hhub_any {f : Nat} (h1 : 1 ≤ f) (h4 : f ≤ 4) (w : World) : Calls Tryd.prog 76 #[.int .i64 f] w fun e w' => ∃ v, e = .returned (.tuple #[v, .nilIface]) ∧ FourH w v [1, 0, 0, 0] w' := by
  match f, h1, h4 with
  | 1, _, _ => exact hhub1 w
  | 2, _, _ => exact hhub2 w
  | 3, _, _ => exact hhub3 w
  | 4, _, _ => exact hhub4 w
theorem hown_any {f : Nat} (h1 : 1 ≤ f) (h4 : f ≤ 4) (w : World) : Calls Tryd.prog 78 #[.int .i64 f] w fun e w' => ∃ v, e = .returned (.tuple #[v, .nilIface]) ∧ FourH w v (ownC f) w' := by
  match f, h1, h4 with
  | 1, _, _ => exact hown1 w
  | 2, _, _ => exact hown2 w
  | 3, _, _ => exact hown3 w
  | 4, _, _ => exact hown4 w
theorem hlink_any {f : Nat} (h1 : 1 ≤ f) (h4 : f ≤ 4) (w : World) : Calls Tryd.prog 77 #[.int .i64 f] w fun e w' => e = .returned (.tuple #[.int .i64 (lkC f), .nilIface]) ∧ Mod noF w w' := by
  match f, h1, h4 with
  | 1, _, _ => exact hlink1 w
  | 2, _, _ => exact hlink2 w
  | 3, _, _ => exact hlink3 w
  | 4, _, _ => exact hlink4 w
end Go.Proofs.YtppihkneeolomaaDoor
end
/- package client: Base.Grace: own cells, a hub, registers that name them. -/
section
namespace Qc
def gOwnC (f t : Nat) : List Int := [if f = 3 then 1 else 0, if f = 4 then 0 else (t : Int), 0, 0]
def gHubC (f n : Nat) : List Int := [1, 0, if f = 4 then 0 else (n : Int), 0]
def gReg0 (_ : Nat) : List Int := [0, 0, 0, 0, 0, 0, 0, 0]
def gReg1 (t : Nat) : List Int := [0, 0, 0, 0, 0, 0, (t : Int) + 1, 0]
def gReg2 (n t : Nat) : List Int := [0, 0, 0, 0, 0, 0, (t : Int) + 1, (n : Int) + 1]
end Qc
namespace Go.Proofs.YtppihkneeolomaaDoor
open Go.RowKit Qs Qh Qc
variable {w wr w1 w2 w' : World} {B lo hi S : Nat} {rv : Value} {rb : Nat → Nat} {rows regs : List (List Int)} {f n : Nat}
/-- Between Grace's steps. -/
structure GrRel (w : World) (B lo hi S : Nat) (rv : Value) (rb : Nat → Nat) (rows regs : List (List Int)) (wr : World) : Prop where
  mod : Mod (fun x => x = B ∨ (lo ≤ x ∧ x < hi)) w wr
  init : ∃ iv ib, BaseAt wr B iv rv ∧ Rws S wr.heap.size wr iv rows ib
  regs : Rws lo hi wr rv regs rb
structure GrOk (w : World) (B lo hi S : Nat) : Prop where
  b : B < lo
  h : lo ≤ hi
  s : hi ≤ S
  w : S ≤ w.heap.size
theorem GrRel.quiet (R : GrRel w B lo hi S rv rb rows regs wr) (P : GrOk w B lo hi S) (h : Mod noF wr w1) : GrRel w B lo hi S rv rb rows regs w1 := by
  obtain ⟨iv, ib, hB, hI⟩ := R.init
  exact ⟨R.mod.trans0 h, ⟨iv, ib, h.heap hB (fun e => e), (hI.keep h (fun _ _ _ e => e)).more h.size⟩, R.regs.keep h (fun _ _ _ e => e)⟩
theorem GrRel.set (R : GrRel w B lo hi S rv rb rows regs wr) (P : GrOk w B lo hi S) {k j : Nat} {l : List Int} {x : Int} (hl : regs[k]? = some l) (hj : j < l.length) :
    GrRel w B lo hi S rv rb rows (regs.set k (l.set j x)) (wr.setCell ⟨rb k, j, none⟩ (.int .i64 x)) := by
  obtain ⟨iv, ib, hB, hI⟩ := R.init
  obtain ⟨R1, hM⟩ := R.regs.set (x := x) hl hj
  have hb := R.regs.bin k l hl (by omega)
  obtain ⟨p1, p2, p3, p4⟩ := P
  have hs : (wr.setCell ⟨rb k, j, none⟩ (.int .i64 x)).heap.size = wr.heap.size := by simp [World.setCell]
  exact ⟨R.mod.trans hM fun x _ e => by rw [e]; exact .inr hb, ⟨iv, ib, hM.heap hB (fun e => by omega), hs ▸ hI.keep hM (fun y h1 h2 e => by omega)⟩, R1⟩
end Go.Proofs.YtppihkneeolomaaDoor
end
/- package client: Base.Grace: its walk. -/
section
namespace Go.Proofs.YtppihkneeolomaaDoor
open Go.RowKit Qs Qh Qc
variable {w wr w1 w2 w' : World} {B lo hi S : Nat} {rv iv : Value} {rb : Nat → Nat} {rows regs : List (List Int)} {f n : Nat}
theorem ownCn (hf : ¬ f = 4) (k : Nat) : (ownC f).set 1 (k : Int) = gOwnC f k := by unfold ownC gOwnC; rw [if_neg hf]; rfl
theorem hubCn (hf : ¬ f = 4) (n : Nat) : ([1, 0, 0, 0] : List Int).set 2 (n : Int) = gHubC f n := by unfold gHubC; rw [if_neg hf]; rfl
theorem set_row {w : World} {g : Nat} {l : List Int} {T : TypeId} (h : w.heap[g]? = some (.cells (l.map (Value.int .i64)).toArray T (0, 0))) (j : Nat) (x : Int) : (w.setCell ⟨g, j, none⟩ (.int .i64 x)).heap[g]? = some (.cells ((l.set j x).map (Value.int .i64)).toArray T (0, 0)) := by
  rw [Qh.heap_setCell_same h]
  congr 2
  simp [List.map_set]
set_option maxRecDepth 4000 in
set_option maxHeartbeats 16000000 in
theorem grace_ok (h1 : 1 ≤ f) (h4 : f ≤ 4) (hn1 : 1 ≤ n) (hn : n ≤ 6) (hB : BaseAt w B (.slice none 0 0) rv) (R : Rws lo hi w rv (List.replicate n z8) rb) (hBl : B < lo) (hlh : lo ≤ hi) (hhi : hi ≤ w.heap.size) :
    Calls Tryd.prog 51 #[.pointer (some ⟨B, 0, none⟩), .int .i64 (f : Nat)] w fun e w' => e = .returned .nilIface ∧ ∃ iv ib, BaseAt w' B iv rv ∧ Rws lo hi w' rv (rowsF (gReg2 n) n) rb ∧ Rws w.heap.size w'.heap.size w' iv (rowsF (gOwnC f) n ++ [gHubC f n]) ib ∧ Mod (fun x => x = B ∨ (lo ≤ x ∧ x < hi)) w w' := by
  have hub := hhub_any h1 h4 w
  have hlk := fun w => hlink_any h1 h4 w
  have how := fun w => hown_any h1 h4 w
  have HB := Lib.hid hB
  have HR := Lib.hid R
  have Hub := Lib.hid hub
  have Hlk := Lib.hid hlk
  have How := Lib.hid how
  obtain ⟨ra, rc, hrv, -⟩ := R.cell
  rw [List.length_replicate] at hrv
  subst hrv
  clear hB R hub hlk how
  go_enter Tryd.func51, Tryd.ntmps51
  go_wp2_with fail
  refine Hub.out.mono ?_
  rintro e w1 ⟨v, rfl, gh, rfl, hgh, hhc, hm1⟩
  have Hm1 := Lib.hid hm1
  have Hhc := Lib.hid hhc
  clear hm1 hhc Hub
  go_wp2_with fail
  refine (Hlk.out w1).mono ?_
  rintro e w2 ⟨rfl, hm2⟩
  have hm02 := Hm1.out.trans0 hm2
  have hs2 := hm2.size
  have hs1 := lt_of_block Hhc.out
  have hsw := hm02.size
  have hB2 := hm02.heap HB.out (fun e => e)
  have b2 : w2.cell? ⟨B, 2, none⟩ = some (.slice ra n rc) := by rw [cell_of_heap hB2]; rfl
  have hgh2 : gh < w2.heap.size := by omega
  have P : GrOk w2 B lo hi w2.heap.size := ⟨hBl, hlh, by omega, Nat.le_refl _⟩
  have HP := Lib.hid P
  have hR0 : GrRel w2 B lo hi w2.heap.size (.slice ra n rc) rb (rowsF (gOwnC f) 0) (rowsF (mixF gReg1 gReg0 0) n) w2 := by
    refine ⟨Mod.refl _ _, ⟨_, fun _ => 0, hB2, Rws.nil _ _ _ _⟩, ?_⟩
    rw [mix_zero, show gReg0 = fun _ => z8 from rfl, ← rows_replicate]
    exact HR.out.keep hm02 (fun _ _ _ e => e)
  have Hh2 := Lib.hid (hm2.heap Hhc.out (fun e => e))
  have Hm02 := Lib.hid hm02
  have HR0 := Lib.hid hR0
  clear hm2 hm02 hB2 P hR0 Hm1 Hhc
  generalize hlkv : lkC f = lk at *
  go_wp2
  go_loopw [9, 34] (fun c i wr => ∃ k : Nat, k ≤ n ∧ c = .int .i64 k ∧ i = .int .i64 k ∧ GrRel w2 B lo hi w2.heap.size (.slice ra n rc) rb (rowsF (gOwnC f) k) (rowsF (mixF gReg1 gReg0 k) n) wr) (fun _ i _ => n - (intOf i).toNat)
  case atStart => exact ⟨0, Nat.zero_le _, rfl, rfl, HR0.out⟩
  case round =>
    generalize wr = wo at *
    obtain ⟨k, hk, rfl, rfl, hG⟩ := hrel
    by_cases hlt : k < n
    · have hd : decide ((k : Int) < (n : Int)) = true := by simp; omega
      have hki : (k : Int) < (n : Int) := by omega
      have HG := Lib.hid hG
      clear hG
      go_wp2_with fail
      refine (How.out wo).mono ?_
      rintro e w3 ⟨v, rfl, g, rfl, hg, hc, hm3⟩
      obtain ⟨iv, ib, hB, hI⟩ := HG.out.init
      have hso : w2.heap.size ≤ wo.heap.size := HG.out.mod.size
      have hs3 := hm3.size
      have hB3 := hm3.heap hB (fun e => e)
      have hI3 := hI.keep hm3 (fun _ _ _ e => e)
      have hR3 := HG.out.regs.keep hm3 (fun _ _ _ e => e)
      have hM3 := HG.out.mod.trans0 hm3
      have hgl := lt_of_block hc
      have Hso := Lib.hid hso
      have Hg := Lib.hid hg
      by_cases hf4 : f = 4
      · obtain rfl : lk = -1 := by rw [← hlkv, hf4]; rfl
        have hrow : w3.heap[g]? = some (.cells ((gOwnC f k).map (Value.int .i64)).toArray 3 (0, 0)) := by subst hf4; exact hc
        have Hrow := Lib.hid hrow
        have HBq := Lib.hid hB3
        have HIq := Lib.hid hI3
        have HRq := Lib.hid hR3
        have HMq := Lib.hid hM3
        have Hsq := Lib.hid hs3
        clear hB hI hB3 hI3 hR3 hM3 hc hrow hs3 hso hg hm3 hlkv HG hf4
        go_wp2_with fail
        refine (cell_ok (l := gOwnC f k) (r := g) HBq.out HIq.out (by have := Hsq.out; omega) (by have := Hsq.out; have := Hso.out; omega) (by omega) (by rw [rowsF_len]; omega) (fun h => ⟨Hg.out, by have := Hso.out; have := Hg.out; omega⟩) (fun h => Hrow.out)).mono ?_
        rintro e w5 ⟨rfl, iv5, hB5, ⟨ib5, hI5⟩, hm5⟩
        rw [rowsF_push] at hI5
        rw [rowsF_len]
        have hvi := HIq.out.vin
        have hG5 : GrRel w2 B lo hi w2.heap.size (.slice ra n rc) rb (rowsF (gOwnC f) (k + 1)) (rowsF (mixF gReg1 gReg0 k) n) w5 := by
          refine ⟨HMq.out.trans hm5 fun x hx e => ?_, ⟨iv5, ib5, hB5, hI5⟩, HRq.out.keep hm5 fun x y1 y2 e => ?_⟩
          · rcases e with e | e
            · exact .inl e
            · have := (hvi x e).1; omega
          · rcases e with e | e
            · omega
            · have := (hvi x e).1; omega
        obtain ⟨ra', rc', hrv', hrx⟩ := hG5.regs.cell
        rw [rowsF_len] at hrv'
        cases hrv'
        obtain ⟨gb, rfl, hgb, hrk⟩ := hrx k (gReg0 k) (mix_get hlt)
        have hrow := hG5.regs.row k _ (mix_get hlt) (by simp [gReg0, gReg1])
        have b2 : w5.cell? ⟨B, 2, none⟩ = some (.slice (some ⟨gb, 0, none⟩) n rc) := by rw [cell_of_heap hB5]; rfl
        have b3 : w5.cell? ⟨gb, k, none⟩ = some (.slice (some ⟨rb k, 0, none⟩) 8 8) := hrk
        have b4 : w5.cell? ⟨rb k, 6, none⟩ = some (.int .i64 0) := by rw [cell_of_heap hrow]; rfl
        have b5 := free_of_heap hrow 6
        have hset := hG5.set HP.out (k := k) (j := 6) (x := (k : Int) + 1) (mix_get hlt) (by simp [gReg0])
        rw [show (gReg0 k).set 6 ((k : Int) + 1) = gReg1 k from rfl, mix_set hlt] at hset
        have Hset := Lib.hid hset
        clear hG5 hrx hrk hrow hset hB5 hI5 hm5 hvi
        go_wp2
        go_roundw
        case rel => exact ⟨k + 1, by omega, by go_num, by go_num, Hset.out⟩
        case measure => simp [intOf]; omega
      · obtain rfl : lk = 2 := by rw [← hlkv]; unfold lkC; rw [if_neg hf4]
        have q1 : w3.cell? ⟨g, 1, none⟩ = some (.int .i64 0) := by rw [cell_of_heap hc]; rfl
        have q2 := free_of_heap hc 1
        have hMs : Mod (fun x => x = g) w3 (w3.setCell ⟨g, 1, none⟩ (.int .i64 k)) := (Mod.refl (fun x => x = g) w3).setCell (fun _ => rfl) _
        have hrow := set_row hc 1 (k : Int)
        rw [ownCn hf4 k] at hrow
        have Hrow := Lib.hid hrow
        have HBq := Lib.hid (hMs.heap hB3 (fun e => by have := lt_of_block hB; omega))
        have HIq := Lib.hid (hI3.keep hMs (fun x y1 y2 e => by omega))
        have HRq := Lib.hid (hR3.keep hMs (fun x y1 y2 e => by omega))
        have HMq := Lib.hid (hM3.trans hMs (fun x hx e => by omega))
        have Hsq := Lib.hid (Nat.le_trans hs3 hMs.size)
        clear hB hI hB3 hI3 hR3 hM3 hc hrow hs3 hso hg hm3 hMs hlkv HG hf4
        go_wp2_with fail
        refine (cell_ok (l := gOwnC f k) (r := g) HBq.out HIq.out (by have := Hsq.out; omega) (by have := Hsq.out; have := Hso.out; omega) (by omega) (by rw [rowsF_len]; omega) (fun h => ⟨Hg.out, by have := Hso.out; have := Hg.out; omega⟩) (fun h => Hrow.out)).mono ?_
        rintro e w5 ⟨rfl, iv5, hB5, ⟨ib5, hI5⟩, hm5⟩
        rw [rowsF_push] at hI5
        rw [rowsF_len]
        have hvi := HIq.out.vin
        have hG5 : GrRel w2 B lo hi w2.heap.size (.slice ra n rc) rb (rowsF (gOwnC f) (k + 1)) (rowsF (mixF gReg1 gReg0 k) n) w5 := by
          refine ⟨HMq.out.trans hm5 fun x hx e => ?_, ⟨iv5, ib5, hB5, hI5⟩, HRq.out.keep hm5 fun x y1 y2 e => ?_⟩
          · rcases e with e | e
            · exact .inl e
            · have := (hvi x e).1; omega
          · rcases e with e | e
            · omega
            · have := (hvi x e).1; omega
        obtain ⟨ra', rc', hrv', hrx⟩ := hG5.regs.cell
        rw [rowsF_len] at hrv'
        cases hrv'
        obtain ⟨gb, rfl, hgb, hrk⟩ := hrx k (gReg0 k) (mix_get hlt)
        have hrow := hG5.regs.row k _ (mix_get hlt) (by simp [gReg0, gReg1])
        have b2 : w5.cell? ⟨B, 2, none⟩ = some (.slice (some ⟨gb, 0, none⟩) n rc) := by rw [cell_of_heap hB5]; rfl
        have b3 : w5.cell? ⟨gb, k, none⟩ = some (.slice (some ⟨rb k, 0, none⟩) 8 8) := hrk
        have b4 : w5.cell? ⟨rb k, 6, none⟩ = some (.int .i64 0) := by rw [cell_of_heap hrow]; rfl
        have b5 := free_of_heap hrow 6
        have hset := hG5.set HP.out (k := k) (j := 6) (x := (k : Int) + 1) (mix_get hlt) (by simp [gReg0])
        rw [show (gReg0 k).set 6 ((k : Int) + 1) = gReg1 k from rfl, mix_set hlt] at hset
        have Hset := Lib.hid hset
        clear hG5 hrx hrk hrow hset hB5 hI5 hm5 hvi
        go_wp2
        go_roundw
        case rel => exact ⟨k + 1, by omega, by go_num, by go_num, Hset.out⟩
        case measure => simp [intOf]; omega
    · have hd : decide ((k : Int) < (n : Int)) = false := by simp; omega
      obtain rfl : n = k := by omega
      have HG := Lib.hid hG
      clear hG
      obtain ⟨iv, ib, hB, hI⟩ := HG.out.init
      have hso : w2.heap.size ≤ wo.heap.size := HG.out.mod.size
      have hhub := HG.out.mod.heap Hh2.out (fun e => by omega)
      have hR3 := HG.out.regs
      rw [mix_all] at hR3
      have hM3 : Qh.Mod (fun x => x = B ∨ (lo ≤ x ∧ x < hi)) w wo := Hm02.out.any.trans HG.out.mod (fun x _ e => e)
      have Hso := Lib.hid hso
      by_cases hf4 : f = 4
      · obtain rfl : lk = -1 := by rw [← hlkv, hf4]; rfl
        have hrow : wo.heap[gh]? = some (.cells ((gHubC f n).map (Value.int .i64)).toArray 3 (0, 0)) := by subst hf4; exact hhub
        have Hrow := Lib.hid hrow
        have HBq := Lib.hid hB
        have HIq := Lib.hid hI
        have HRq := Lib.hid hR3
        have HMq := Lib.hid hM3
        have Hsq := Lib.hid (Nat.le_refl wo.heap.size)
        clear hB hI hR3 hM3 hhub hrow hso hlkv HG hf4
        go_wp2_with fail
        refine (cell_ok0 (lo0 := w.heap.size) (l := gHubC f n) (r := gh) (by omega) HBq.out HIq.out (by have := Hsq.out; omega) (by have := Hsq.out; have := Hso.out; omega) (by omega) (by rw [rowsF_len]; omega) (fun h => ⟨hgh, by omega, .inr hgh2⟩) (fun h => Hrow.out)).mono ?_
        rintro e w5 ⟨rfl, iv5, hB5, ⟨ib5, hI5⟩, hm5⟩
        rw [rowsF_len]
        have hvi := HIq.out.vin
        have hP2 : GrOk w B lo hi w.heap.size := ⟨hBl, hlh, hhi, Nat.le_refl _⟩
        have HP2 := Lib.hid hP2
        have hG5 : GrRel w B lo hi w.heap.size (.slice ra n rc) rb (rowsF (gOwnC f) n ++ [gHubC f n]) (rowsF (mixF (gReg2 n) gReg1 0) n) w5 := by
          refine ⟨HMq.out.trans hm5 fun x hx e => ?_, ⟨iv5, ib5, hB5, hI5⟩, ?_⟩
          · rcases e with e | e
            · exact .inl e
            · have := (hvi x e).1; omega
          · rw [mix_zero]
            refine HRq.out.keep hm5 fun x y1 y2 e => ?_
            rcases e with e | e
            · omega
            · have := (hvi x e).1; omega
        have HG5 := Lib.hid hG5
        have b2 : w5.cell? ⟨B, 2, none⟩ = some (.slice ra n rc) := by rw [cell_of_heap hB5]; rfl
        clear hG5 hB5 hI5 hm5 hvi hP2
        go_wp2
        go_loopw [76] (fun i wr => ∃ k : Nat, k ≤ n ∧ i = .int .i64 k ∧ GrRel w B lo hi w.heap.size (.slice ra n rc) rb (rowsF (gOwnC f) n ++ [gHubC f n]) (rowsF (mixF (gReg2 n) gReg1 k) n) wr) (fun i _ => n - (intOf i).toNat)
        case atStart => exact ⟨0, Nat.zero_le _, rfl, HG5.out⟩
        case round =>
          generalize wr = w6 at *
          obtain ⟨k, hk, rfl, hG5⟩ := hrel
          by_cases hlt : k < n
          · have hd : decide ((k : Int) < (n : Int)) = true := by simp; omega
            have hki : (k : Int) < (n : Int) := by omega
            obtain ⟨iv6, ib6, hB5, hI6⟩ := hG5.init
            clear b2
            obtain ⟨ra', rc', hrv', hrx⟩ := hG5.regs.cell
            rw [rowsF_len] at hrv'
            cases hrv'
            obtain ⟨gb, rfl, hgb, hrk⟩ := hrx k (gReg1 k) (mix_get hlt)
            have hrow := hG5.regs.row k _ (mix_get hlt) (by simp [gReg0, gReg1])
            have b2 : w6.cell? ⟨B, 2, none⟩ = some (.slice (some ⟨gb, 0, none⟩) n rc) := by rw [cell_of_heap hB5]; rfl
            have b3 : w6.cell? ⟨gb, k, none⟩ = some (.slice (some ⟨rb k, 0, none⟩) 8 8) := hrk
            have b4 : w6.cell? ⟨rb k, 7, none⟩ = some (.int .i64 0) := by rw [cell_of_heap hrow]; rfl
            have b5 := free_of_heap hrow 7
            have hset := hG5.set HP2.out (k := k) (j := 7) (x := (n : Int) + 1) (mix_get hlt) (by simp [gReg1])
            rw [show (gReg1 k).set 7 ((n : Int) + 1) = gReg2 n k from rfl, mix_set hlt] at hset
            have Hset := Lib.hid hset
            clear hG5 hrx hrk hrow hset hB5 hI6
            go_wp2
            go_roundw
            case rel => exact ⟨k + 1, by omega, by go_num, Hset.out⟩
            case measure => simp [intOf]; omega
          · have hd : decide ((k : Int) < (n : Int)) = false := by simp; omega
            obtain rfl : n = k := by omega
            have HGf := Lib.hid hG5
            clear hG5 b2
            go_wp2
            go_ret
            obtain ⟨iv6, ib6, hB6, hI6⟩ := HGf.out.init
            refine ⟨rfl, iv6, ib6, hB6, ?_, hI6, HGf.out.mod⟩
            have := HGf.out.regs
            rw [mix_all] at this
            exact this
      · obtain rfl : lk = 2 := by rw [← hlkv]; unfold lkC; rw [if_neg hf4]
        have q1 : wo.cell? ⟨gh, 2, none⟩ = some (.int .i64 0) := by rw [cell_of_heap hhub]; rfl
        have q2 := free_of_heap hhub 2
        have hMs : Mod (fun x => x = gh) wo (wo.setCell ⟨gh, 2, none⟩ (.int .i64 (n : Int))) := (Mod.refl (fun x => x = gh) wo).setCell (fun _ => rfl) _
        have hrow := set_row hhub 2 (n : Int)
        rw [hubCn hf4 n] at hrow
        have Hrow := Lib.hid hrow
        have HBq := Lib.hid (hMs.heap hB (fun e => by omega))
        have HIq := Lib.hid (hI.keep hMs (fun x y1 y2 e => by omega))
        have HRq := Lib.hid (hR3.keep hMs (fun x y1 y2 e => by omega))
        have HMq := Lib.hid (hM3.trans hMs (fun x hx e => by omega))
        have Hsq := Lib.hid hMs.size
        clear hB hI hR3 hM3 hhub hrow hso hMs hlkv HG hf4
        go_wp2_with fail
        refine (cell_ok0 (lo0 := w.heap.size) (l := gHubC f n) (r := gh) (by omega) HBq.out HIq.out (by have := Hsq.out; omega) (by have := Hsq.out; have := Hso.out; omega) (by omega) (by rw [rowsF_len]; omega) (fun h => ⟨hgh, by omega, .inr hgh2⟩) (fun h => Hrow.out)).mono ?_
        rintro e w5 ⟨rfl, iv5, hB5, ⟨ib5, hI5⟩, hm5⟩
        rw [rowsF_len]
        have hvi := HIq.out.vin
        have hP2 : GrOk w B lo hi w.heap.size := ⟨hBl, hlh, hhi, Nat.le_refl _⟩
        have HP2 := Lib.hid hP2
        have hG5 : GrRel w B lo hi w.heap.size (.slice ra n rc) rb (rowsF (gOwnC f) n ++ [gHubC f n]) (rowsF (mixF (gReg2 n) gReg1 0) n) w5 := by
          refine ⟨HMq.out.trans hm5 fun x hx e => ?_, ⟨iv5, ib5, hB5, hI5⟩, ?_⟩
          · rcases e with e | e
            · exact .inl e
            · have := (hvi x e).1; omega
          · rw [mix_zero]
            refine HRq.out.keep hm5 fun x y1 y2 e => ?_
            rcases e with e | e
            · omega
            · have := (hvi x e).1; omega
        have HG5 := Lib.hid hG5
        have b2 : w5.cell? ⟨B, 2, none⟩ = some (.slice ra n rc) := by rw [cell_of_heap hB5]; rfl
        clear hG5 hB5 hI5 hm5 hvi hP2
        go_wp2
        go_loopw [76] (fun i wr => ∃ k : Nat, k ≤ n ∧ i = .int .i64 k ∧ GrRel w B lo hi w.heap.size (.slice ra n rc) rb (rowsF (gOwnC f) n ++ [gHubC f n]) (rowsF (mixF (gReg2 n) gReg1 k) n) wr) (fun i _ => n - (intOf i).toNat)
        case atStart => exact ⟨0, Nat.zero_le _, rfl, HG5.out⟩
        case round =>
          generalize wr = w6 at *
          obtain ⟨k, hk, rfl, hG5⟩ := hrel
          by_cases hlt : k < n
          · have hd : decide ((k : Int) < (n : Int)) = true := by simp; omega
            have hki : (k : Int) < (n : Int) := by omega
            obtain ⟨iv6, ib6, hB5, hI6⟩ := hG5.init
            clear b2
            obtain ⟨ra', rc', hrv', hrx⟩ := hG5.regs.cell
            rw [rowsF_len] at hrv'
            cases hrv'
            obtain ⟨gb, rfl, hgb, hrk⟩ := hrx k (gReg1 k) (mix_get hlt)
            have hrow := hG5.regs.row k _ (mix_get hlt) (by simp [gReg0, gReg1])
            have b2 : w6.cell? ⟨B, 2, none⟩ = some (.slice (some ⟨gb, 0, none⟩) n rc) := by rw [cell_of_heap hB5]; rfl
            have b3 : w6.cell? ⟨gb, k, none⟩ = some (.slice (some ⟨rb k, 0, none⟩) 8 8) := hrk
            have b4 : w6.cell? ⟨rb k, 7, none⟩ = some (.int .i64 0) := by rw [cell_of_heap hrow]; rfl
            have b5 := free_of_heap hrow 7
            have hset := hG5.set HP2.out (k := k) (j := 7) (x := (n : Int) + 1) (mix_get hlt) (by simp [gReg1])
            rw [show (gReg1 k).set 7 ((n : Int) + 1) = gReg2 n k from rfl, mix_set hlt] at hset
            have Hset := Lib.hid hset
            clear hG5 hrx hrk hrow hset hB5 hI6
            go_wp2
            go_roundw
            case rel => exact ⟨k + 1, by omega, by go_num, Hset.out⟩
            case measure => simp [intOf]; omega
          · have hd : decide ((k : Int) < (n : Int)) = false := by simp; omega
            obtain rfl : n = k := by omega
            have HGf := Lib.hid hG5
            clear hG5 b2
            go_wp2
            go_ret
            obtain ⟨iv6, ib6, hB6, hI6⟩ := HGf.out.init
            refine ⟨rfl, iv6, ib6, hB6, ?_, hI6, HGf.out.mod⟩
            have := HGf.out.regs
            rw [mix_all] at this
            exact this
end Go.Proofs.YtppihkneeolomaaDoor
end
/- package queue: Build's state between its steps, in plain. -/
section
namespace Qu
open Qs Qg Qh
variable {lab : Nat → List UInt8}
end Qu
namespace Go.Proofs.YtppihkneeolomaaDoor
open Go.RowKit Qs Qh
def r8 : List Int := [0, 0, 0, 0, 0, 2, 0, 0]
/-- Where things lie. -/
structure Plc where
  T2 : Nat
  B : Nat
  lo1 : Nat
  hi1 : Nat
  lo2 : Nat
  hi2 : Nat
  S : Nat
structure Plc.Ok (p : Plc) (w : World) : Prop where
  t2 : w.heap.size ≤ p.T2
  b : p.T2 < p.B
  l1 : p.B < p.lo1
  h1 : p.lo1 ≤ p.hi1
  l2 : p.hi1 ≤ p.lo2
  h2 : p.lo2 ≤ p.hi2
  s : p.hi2 ≤ p.S
variable {w wr w1 : World} {p : Plc} {iv rv cv cv' u : Value} {rb ib : Nat → Nat} {cs : Nat → List Instr} {n kr k : Nat} {vk : Nat → Value}
end Go.Proofs.YtppihkneeolomaaDoor
end
/- Build's state between its steps, in plain: any rows. -/
section
namespace Go.Proofs.YtppihkneeolomaaDoor
open Go.RowKit Qs Qh Qc
/-- Behind rows set and k codes made. -/
structure BldRel (w : World) (p : Plc) (iv rv : Value) (rb ib : Nat → Nat) (cs : Nat → List Instr) (ini regs : List (List Int)) (k : Nat) (cv : Value) (vk : Nat → Value) (wr : World) : Prop where
  mod : Mod noF w wr
  size : p.S ≤ wr.heap.size
  res : wr.heap[p.T2]? = some (.cells #[.int .i64 0, .slice none 0 0, .slice none 0 0] 32 (0, 0))
  base : BaseAt wr p.B iv rv
  regs : Rws p.lo1 p.hi1 wr rv regs rb
  init : Rws p.lo2 p.hi2 wr iv ini ib
  cds : Cds p.S wr cv cs k vk
variable {w wr w1 : World} {p : Plc} {iv rv cv cv' u : Value} {rb ib : Nat → Nat} {cs : Nat → List Instr} {ini regs : List (List Int)} {kr k j : Nat} {vk : Nat → Value} {l : List Int} {x : Int}
theorem BldRel.quiet (R : BldRel w p iv rv rb ib cs ini regs k cv vk wr) (h : Mod noF wr w1) : BldRel w p iv rv rb ib cs ini regs k cv vk w1 :=
  ⟨R.mod.trans0 h, Nat.le_trans R.size h.size, h.heap R.res (fun e => e), h.heap R.base (fun e => e), R.regs.keep h (fun _ _ _ e => e), R.init.keep h (fun _ _ _ e => e), R.cds.keep h (fun _ _ _ e => e)⟩
theorem BldRel.store (R : BldRel w p iv rv rb ib cs ini regs k cv vk wr) (P : p.Ok w) (hl : regs[kr]? = some l) (hj : j < l.length) : BldRel w p iv rv rb ib cs ini (regs.set kr (l.set j x)) k cv vk (wr.setCell ⟨rb kr, j, none⟩ (.int .i64 x)) ∧ wr.heap[rb kr]? = some (.cells (l.map (Value.int .i64)).toArray 3 (0, 0)) ∧ p.lo1 ≤ rb kr := by
  obtain ⟨R1, hM⟩ := R.regs.set (x := x) (j := j) hl hj
  have hb := R.regs.bin kr l hl (by omega)
  have hP := P
  obtain ⟨p1, p2, p3, p4, p5, p6, p7⟩ := hP
  refine ⟨⟨R.mod.trans hM fun x hx e => ?_, Nat.le_trans R.size hM.size, hM.heap R.res (fun e => ?_), hM.heap R.base (fun e => ?_), R1, R.init.keep hM (fun x h1 h2 e => ?_), R.cds.keep hM (fun x h1 h2 e => ?_)⟩, R.regs.row kr l hl (by omega), hb.1⟩
  all_goals omega
theorem BldRel.push (R : BldRel w p iv rv rb ib cs ini regs k cv vk wr) (P : p.Ok w) (hc : CodeAt wr u (cs k)) (hu : ∀ g, u.ownBlock = some g → p.S ≤ g ∧ g < wr.heap.size ∧ cv.ownBlock ≠ some g)
    (hown : w1.ownsRow 0 69 1 cv' (k + 1) ((List.range k).map vk ++ [u])) (hg : wr.grownBy w1 cv.ownBlock) (hfr : ∀ g, cv'.ownBlock = some g → cv.ownBlock = some g ∨ wr.heap.size ≤ g) :
    BldRel w p iv rv rb ib cs ini regs (k + 1) cv' (fun i => if i = k then u else vk i) w1 := by
  have hM : Mod (fun x => cv.ownBlock = some x) wr w1 := (Mod.refl (fun x => cv.ownBlock = some x) wr).grown hg fun j hj _ => hj
  have hcv := R.cds.vin
  obtain ⟨p1, p2, p3, p4, p5, p6, p7⟩ := P
  refine ⟨R.mod.trans hM fun x hx e => ?_, Nat.le_trans R.size hM.size, hM.heap R.res (fun e => ?_), hM.heap R.base (fun e => ?_), R.regs.keep hM (fun x h1 h2 e => ?_), R.init.keep hM (fun x h1 h2 e => ?_), R.cds.push R.size hc hu hown hg hfr⟩
  all_goals have := hcv _ e; omega
end Go.Proofs.YtppihkneeolomaaDoor
end
/- R.SameInts. -/
section
namespace Go.Proofs.YtppihkneeolomaaDoor
open Go.RowKit Qs Qh
theorem sameInts_same (v u : Value) (l : List Int) (w : World) (hv : IntsAt w v l) (hu : IntsAt w u l) (hl : l.length ≤ 1000000) :
    Calls Tryd.prog 28 #[v, u] w fun e w' => e = .returned (.bool true) ∧ Mod noF w w' := by
  obtain ⟨va, vc, rfl, _⟩ := hv.at_
  obtain ⟨ua, uc, rfl, _⟩ := hu.at_
  have Hv := Lib.hid hv
  have Hu := Lib.hid hu
  clear hv hu
  have heq : ((l.length : Int) != (l.length : Int)) = false := by simp
  go_enter Tryd.func28, Tryd.ntmps28
  go_wp2
  go_loopw [5] (fun i wr => ∃ k : Nat, k ≤ l.length ∧ i = .int .i64 k ∧ Mod noF w wr) (fun i _ => l.length - (intOf i).toNat)
  case atStart => exact ⟨0, Nat.zero_le _, rfl, Mod.refl _ _⟩
  case round =>
    obtain ⟨k, hk, rfl, hm⟩ := hrel
    have iv_ := Hv.out.frame0 hm
    have iu_ := Hu.out.frame0 hm
    have Hm := Lib.hid hm
    clear hm
    by_cases hlt : k < l.length
    · have hd : decide ((k : Int) < (l.length : Int)) = true := by simp; omega
      have hlti : (k : Int) < (l.length : Int) := by omega
      obtain ⟨x, hx⟩ : ∃ x, l[k]? = some x := ⟨_, List.getElem?_eq_getElem hlt⟩
      obtain ⟨va', vc', e', _, hcv⟩ := iv_.at_
      cases e'
      obtain ⟨ua', uc', e', _, hcu⟩ := iu_.at_
      cases e'
      obtain ⟨b1, o1, rfl, hb1, hc1⟩ := hcv k x hx
      obtain ⟨b2, o2, rfl, hb2, hc2⟩ := hcu k x hx
      clear iv_ iu_ hcv hcu hx
      go_wp2
      go_quiet (fail)
      go_wp2
      go_roundw
      case rel => exact ⟨k + 1, by omega, by go_num, Hm.out.drewN _⟩
      case measure => simp [intOf]; omega
    · have hd : decide ((k : Int) < (l.length : Int)) = false := by simp; omega
      clear iv_ iu_
      go_wp2
      go_ret
      exact ⟨rfl, Hm.out⟩
end Go.Proofs.YtppihkneeolomaaDoor
end
