/- package grace: join, away, each, turn. -/
import Derived.Test.YtppihkneeolomaaDoorSAm5
import Derived.Laws.Entries
set_option linter.unusedVariables false
set_option linter.unusedSimpArgs false
set_option linter.unusedSectionVars false
namespace Go.Proofs.YtppihkneeolomaaDoor
open Go.RowKit Qs Qh
variable {w0 w w1 : World} {b o : Nat} {v0 : Value} {l : List Instr} {br s : ByteArray} {fe jo co : Bool} {u : Value} {c : Nat}
def awayCode : List Instr := [⟨0, 0, 0, 0, []⟩, ⟨7, 6, 0, 0, []⟩, ⟨12, 0, 0, 0, []⟩]
def joinCode (s : ByteArray) : List Instr := [⟨6, 0, 6, 2, []⟩, ⟨14, 0, 0, 0, s.data.toList ++ [46, 106]⟩, ⟨16, 0, 0, 0, s.data.toList ++ [46, 107]⟩, ⟨17, 0, 0, 0, s.data.toList ++ [46, 106]⟩] ++ (takeCode (s.data.toList ++ [116]) 7 1 0 ++ ([⟨6, 0, 7, 2, []⟩, ⟨7, 6, 0, 1, []⟩, ⟨7, 7, 6, 2, []⟩, ⟨0, 0, 1, 0, []⟩, ⟨7, 6, 0, 2, []⟩] ++ (giveCode 7 1 0 ++ ([⟨17, 0, 0, 0, s.data.toList ++ [46, 107]⟩]))))
def turnGo (q : ByteArray) : List Instr := [⟨0, 1, 255, 0, []⟩, ⟨4, 1, 0, 1, []⟩, ⟨14, 1, 0, 0, q.data.toList ++ [110]⟩, ⟨6, 1, 7, 0, []⟩, ⟨5, 1, 0, 1, []⟩, ⟨0, 0, 256, 0, []⟩, ⟨4, 1, 1, 0, []⟩, ⟨14, 1, 0, 0, q.data.toList ++ [110]⟩]
def waitGo (q : ByteArray) : List Instr := [⟨14, 0, 0, 0, q.data.toList ++ [46, 120, 110]⟩, ⟨6, 1, 7, 0, []⟩, ⟨15, 0, 1, 0, q.data.toList ++ [46, 120, 110]⟩]
def eachCode (go : List Instr) (p : ByteArray) : List Instr := [⟨6, 2, 7, 2, []⟩, ⟨17, 0, 0, 0, p.data.toList ++ [108]⟩, ⟨14, 2, 0, 0, p.data.toList ++ [111]⟩, ⟨17, 0, 0, 0, p.data.toList ++ [115]⟩, ⟨6, 0, 2, 0, []⟩] ++ (go ++ [⟨16, 0, 0, 0, p.data.toList ++ [115]⟩, ⟨17, 0, 0, 0, p.data.toList ++ [110]⟩, ⟨6, 2, 2, 1, []⟩, ⟨16, 0, 0, 0, p.data.toList ++ [108]⟩, ⟨17, 0, 0, 0, p.data.toList ++ [111]⟩])
def turnCode (n : Nat) (q : ByteArray) : List Instr := [⟨6, 0, 7, 0, []⟩, ⟨0, 1, 256, 0, []⟩, ⟨5, 0, 0, 1, []⟩, ⟨7, 7, 0, 0, []⟩, ⟨n, 0, 0, 0, []⟩] ++ (eachCode (turnGo q) q)
set_option maxHeartbeats 2000000 in
theorem gaway_chain (C : Chain w0 b 4 v0 l w) (hlen : l.length ≤ 1000) :
    Calls Tryd.prog 84 #[.pointer (some ⟨b, 0, none⟩)] w fun e w' => e = .returned (.tuple #[]) ∧ Chain w0 b 4 v0 (l ++ awayCode) w' := by
  have HC := Lib.hid C
  clear C
  go_enter Tryd.func84, Tryd.ntmps84
  go_wp2_with fail
  refine (op2_chain (HC.out.quiet ((Mod.refl _ _).alloc _)) (by first | omega | simp) 0 _ rfl w.heap.size 0 0 2 (by simp) (by simp) (by simp)).mono ?_
  rintro e x1 ⟨rfl, C⟩
  have HC1 := Lib.hid C
  clear C
  go_wp2_with fail
  refine (op3_chain (HC1.out.quiet ((Mod.refl _ _).alloc _)) (by simp [takeCode, giveCode, joinCode, awayCode, eachCode, turnGo, waitGo, turnCode] <;> omega) 7 _ rfl x1.heap.size 6 0 0 3 (by simp) (by simp) (by simp) (by simp)).mono ?_
  rintro e x2 ⟨rfl, C⟩
  have HC2 := Lib.hid C
  clear C
  go_wp2_with fail
  refine (op0_chain HC2.out (by simp [takeCode, giveCode, joinCode, awayCode, eachCode, turnGo, waitGo, turnCode] <;> omega) 12 _ rfl).mono ?_
  rintro e x3 ⟨rfl, C⟩
  have HC3 := Lib.hid C
  clear C
  go_wp2
  go_end0
  exact ⟨rfl, by simpa [awayCode, List.append_assoc] using HC3.out⟩
set_option maxHeartbeats 8000000 in
theorem gjoin_chain (C : Chain w0 b 4 v0 l w) (M : MkAt w b br fe jo co s) (hlen : l.length ≤ 900) (hn : nameB s.data.toList = true) (hs : s.size ≤ 4) :
    Calls Tryd.prog 110 #[.pointer (some ⟨b, 0, none⟩)] w fun e w' => e = .returned (.tuple #[]) ∧ Chain w0 b 4 v0 (l ++ joinCode s) w' := by
  obtain ⟨v1, C1, hv1, -, hk⟩ := C.re (Mod.refl noF w)
  have HM := Lib.hid M
  have HC := Lib.hid C1
  have Hk := Lib.hid hk
  have Hn := Lib.hid hn
  clear C C1 M hk hv1 hn
  go_enter Tryd.func110, Tryd.ntmps110
  go_wp2
  refine wp_region_held_drew (S := fun W => W.cell? ⟨b, 5, none⟩ = some (.string s)) (by kernel_rfl) ((Mod.refl noF _).drew.cell (HC.out.mk HM.out).c5 (fun e => e)) (fun hHeld => ?_)
  refine wpAnyH_take (i := 0) (oi := ?o0x0) (v := ?v0x0) ?q0x0 (by kernel_rfl) ?f0x0 ?g0x0 ?p0x0 ?u0x0 (by assumption) ?r0x0
  case q0x0 => (rw [List.getElem?_toArray]; rfl)
  case f0x0 => kernel_rfl
  case g0x0 => kernel_rfl
  case p0x0 => exact (fun _ _ _ h => h)
  case u0x0 => (refine Or.inl ⟨by rfl, ?_⟩; intro w hSw; (try dsimp only at hSw); go_simp; (try rw [if_neg (by omega)]); try with_reducible rfl)
  try simp only [Act.put, List.setIfInBounds_toArray, List.set_cons_zero, List.set_cons_succ]
  refine wpAnyH_take (i := 1) (oi := ?o0x1) (v := ?v0x1) ?q0x1 (by kernel_rfl) ?f0x1 ?g0x1 ?p0x1 ?u0x1 (by assumption) ?r0x1
  case q0x1 => (rw [List.getElem?_toArray]; rfl)
  case f0x1 => kernel_rfl
  case g0x1 => kernel_rfl
  case p0x1 => exact (fun _ _ _ h => h)
  case u0x1 => (refine Or.inl ⟨by rfl, ?_⟩; intro w hSw; (try dsimp only at hSw); go_simp; (try rw [if_neg (by omega)]); try with_reducible rfl)
  try simp only [Act.put, List.setIfInBounds_toArray, List.set_cons_zero, List.set_cons_succ]
  refine wpAnyH_take (i := 2) (oi := ?o0x2) (v := ?v0x2) ?q0x2 (by kernel_rfl) ?f0x2 ?g0x2 ?p0x2 ?u0x2 (by assumption) ?r0x2
  case q0x2 => (rw [List.getElem?_toArray]; rfl)
  case f0x2 => kernel_rfl
  case g0x2 => kernel_rfl
  case p0x2 => exact (fun _ _ _ h => h)
  case u0x2 => (refine Or.inl ⟨by rfl, ?_⟩; intro w hSw; (try dsimp only at hSw); go_simp; (try rw [if_neg (by omega)]); try with_reducible rfl)
  try simp only [Act.put, List.setIfInBounds_toArray, List.set_cons_zero, List.set_cons_succ]
  refine wpAnyH_take (i := 5) (oi := ?o0x5) (v := ?v0x5) ?q0x5 (by kernel_rfl) ?f0x5 ?g0x5 ?p0x5 ?u0x5 (by assumption) ?r0x5
  case q0x5 => (rw [List.getElem?_toArray]; rfl)
  case f0x5 => kernel_rfl
  case g0x5 => kernel_rfl
  case p0x5 => exact (fun _ _ _ h => h)
  case u0x5 => (refine Or.inl ⟨by rfl, ?_⟩; intro w hSw; (try dsimp only at hSw); go_simp; (try rw [if_neg (by omega)]); try with_reducible rfl)
  try simp only [Act.put, List.setIfInBounds_toArray, List.set_cons_zero, List.set_cons_succ]
  refine wpAnyH_take (i := 6) (oi := ?o0x6) (v := ?v0x6) ?q0x6 (by kernel_rfl) ?f0x6 ?g0x6 ?p0x6 ?u0x6 (by assumption) ?r0x6
  case q0x6 => (rw [List.getElem?_toArray]; rfl)
  case f0x6 => kernel_rfl
  case g0x6 => kernel_rfl
  case p0x6 => exact (fun _ _ _ h => h)
  case u0x6 => (refine Or.inl ⟨by rfl, ?_⟩; intro w hSw; (try dsimp only at hSw); go_simp; (try rw [if_neg (by omega)]); try with_reducible rfl)
  try simp only [Act.put, List.setIfInBounds_toArray, List.set_cons_zero, List.set_cons_succ]
  refine wpAnyH_take (i := 7) (oi := ?o0x7) (v := ?v0x7) ?q0x7 (by kernel_rfl) ?f0x7 ?g0x7 ?p0x7 ?u0x7 (by assumption) ?r0x7
  case q0x7 => (rw [List.getElem?_toArray]; rfl)
  case f0x7 => kernel_rfl
  case g0x7 => kernel_rfl
  case p0x7 => exact (fun _ _ _ h => h)
  case u0x7 => (refine Or.inl ⟨by rfl, ?_⟩; intro w hSw; (try dsimp only at hSw); go_simp; (try rw [if_neg (by omega)]); try with_reducible rfl)
  try simp only [Act.put, List.setIfInBounds_toArray, List.set_cons_zero, List.set_cons_succ]
  refine wpAnyH_take (i := 8) (oi := ?o0x8) (v := ?v0x8) ?q0x8 (by kernel_rfl) ?f0x8 ?g0x8 ?p0x8 ?u0x8 (by assumption) ?r0x8
  case q0x8 => (rw [List.getElem?_toArray]; rfl)
  case f0x8 => kernel_rfl
  case g0x8 => kernel_rfl
  case p0x8 => exact (fun _ _ _ h => h)
  case u0x8 => (refine Or.inl ⟨by rfl, ?_⟩; intro w hSw; (try dsimp only at hSw); go_simp; (try rw [if_neg (by omega)]); try with_reducible rfl)
  try simp only [Act.put, List.setIfInBounds_toArray, List.set_cons_zero, List.set_cons_succ]
  refine wpAnyH_take (i := 9) (oi := ?o0x9) (v := ?v0x9) ?q0x9 (by kernel_rfl) ?f0x9 ?g0x9 ?p0x9 ?u0x9 (by assumption) ?r0x9
  case q0x9 => (rw [List.getElem?_toArray]; rfl)
  case f0x9 => kernel_rfl
  case g0x9 => kernel_rfl
  case p0x9 => exact (fun _ _ _ h => h)
  case u0x9 => (refine Or.inl ⟨by rfl, ?_⟩; intro w hSw; (try dsimp only at hSw); go_simp; (try rw [if_neg (by omega)]); try with_reducible rfl)
  try simp only [Act.put, List.setIfInBounds_toArray, List.set_cons_zero, List.set_cons_succ]
  refine wpAnyH_take (i := 12) (oi := ?o0x12) (v := ?v0x12) ?q0x12 (by kernel_rfl) ?f0x12 ?g0x12 ?p0x12 ?u0x12 (by assumption) ?r0x12
  case q0x12 => (rw [List.getElem?_toArray]; rfl)
  case f0x12 => kernel_rfl
  case g0x12 => kernel_rfl
  case p0x12 => exact (fun _ _ _ h => h)
  case u0x12 => (refine Or.inl ⟨by rfl, ?_⟩; intro w hSw; (try dsimp only at hSw); go_simp; (try rw [if_neg (by omega)]); try with_reducible rfl)
  try simp only [Act.put, List.setIfInBounds_toArray, List.set_cons_zero, List.set_cons_succ]
  refine wpAnyH_take (i := 13) (oi := ?o0x13) (v := ?v0x13) ?q0x13 (by kernel_rfl) ?f0x13 ?g0x13 ?p0x13 ?u0x13 (by assumption) ?r0x13
  case q0x13 => (rw [List.getElem?_toArray]; rfl)
  case f0x13 => kernel_rfl
  case g0x13 => kernel_rfl
  case p0x13 => exact (fun _ _ _ h => h)
  case u0x13 => (refine Or.inl ⟨by rfl, ?_⟩; intro w hSw; (try dsimp only at hSw); go_simp; (try rw [if_neg (by omega)]); try with_reducible rfl)
  try simp only [Act.put, List.setIfInBounds_toArray, List.set_cons_zero, List.set_cons_succ]
  refine wpAnyH_take (i := 14) (oi := ?o0x14) (v := ?v0x14) ?q0x14 (by kernel_rfl) ?f0x14 ?g0x14 ?p0x14 ?u0x14 (by assumption) ?r0x14
  case q0x14 => (rw [List.getElem?_toArray]; rfl)
  case f0x14 => kernel_rfl
  case g0x14 => kernel_rfl
  case p0x14 => exact (fun _ _ _ h => h)
  case u0x14 => (refine Or.inl ⟨by rfl, ?_⟩; intro w hSw; (try dsimp only at hSw); go_simp; (try rw [if_neg (by omega)]); try with_reducible rfl)
  try simp only [Act.put, List.setIfInBounds_toArray, List.set_cons_zero, List.set_cons_succ]
  refine wpAnyH_take (i := 15) (oi := ?o0x15) (v := ?v0x15) ?q0x15 (by kernel_rfl) ?f0x15 ?g0x15 ?p0x15 ?u0x15 (by assumption) ?r0x15
  case q0x15 => (rw [List.getElem?_toArray]; rfl)
  case f0x15 => kernel_rfl
  case g0x15 => kernel_rfl
  case p0x15 => exact (fun _ _ _ h => h)
  case u0x15 => (refine Or.inl ⟨by rfl, ?_⟩; intro w hSw; (try dsimp only at hSw); go_simp; (try rw [if_neg (by omega)]); try with_reducible rfl)
  try simp only [Act.put, List.setIfInBounds_toArray, List.set_cons_zero, List.set_cons_succ]
  refine wpAnyH_take (i := 16) (oi := ?o0x16) (v := ?v0x16) ?q0x16 (by kernel_rfl) ?f0x16 ?g0x16 ?p0x16 ?u0x16 (by assumption) ?r0x16
  case q0x16 => (rw [List.getElem?_toArray]; rfl)
  case f0x16 => kernel_rfl
  case g0x16 => kernel_rfl
  case p0x16 => exact (fun _ _ _ h => h)
  case u0x16 => (refine Or.inl ⟨by rfl, ?_⟩; intro w hSw; (try dsimp only at hSw); go_simp; (try rw [if_neg (by omega)]); try with_reducible rfl)
  try simp only [Act.put, List.setIfInBounds_toArray, List.set_cons_zero, List.set_cons_succ]
  refine wpAnyH_take (i := 18) (oi := ?o0x18) (v := ?v0x18) ?q0x18 (by kernel_rfl) ?f0x18 ?g0x18 ?p0x18 ?u0x18 (by assumption) ?r0x18
  case q0x18 => (rw [List.getElem?_toArray]; rfl)
  case f0x18 => kernel_rfl
  case g0x18 => kernel_rfl
  case p0x18 => exact (fun _ _ _ h => h)
  case u0x18 => (refine Or.inl ⟨by rfl, ?_⟩; intro w hSw; (try dsimp only at hSw); go_simp; (try rw [if_neg (by omega)]); try with_reducible rfl)
  try simp only [Act.put, List.setIfInBounds_toArray, List.set_cons_zero, List.set_cons_succ]
  refine wpAnyH_take (i := 19) (oi := ?o0x19) (v := ?v0x19) ?q0x19 (by kernel_rfl) ?f0x19 ?g0x19 ?p0x19 ?u0x19 (by assumption) ?r0x19
  case q0x19 => (rw [List.getElem?_toArray]; rfl)
  case f0x19 => kernel_rfl
  case g0x19 => kernel_rfl
  case p0x19 => exact (fun _ _ _ h => h)
  case u0x19 => (refine Or.inl ⟨by rfl, ?_⟩; intro w hSw; (try dsimp only at hSw); go_simp; (try rw [if_neg (by omega)]); try with_reducible rfl)
  try simp only [Act.put, List.setIfInBounds_toArray, List.set_cons_zero, List.set_cons_succ]
  refine wpAnyH_take (i := 20) (oi := ?o0x20) (v := ?v0x20) ?q0x20 (by kernel_rfl) ?f0x20 ?g0x20 ?p0x20 ?u0x20 (by assumption) ?r0x20
  case q0x20 => (rw [List.getElem?_toArray]; rfl)
  case f0x20 => kernel_rfl
  case g0x20 => kernel_rfl
  case p0x20 => exact (fun _ _ _ h => h)
  case u0x20 => (refine Or.inl ⟨by rfl, ?_⟩; intro w hSw; (try dsimp only at hSw); go_simp; (try rw [if_neg (by omega)]); try with_reducible rfl)
  try simp only [Act.put, List.setIfInBounds_toArray, List.set_cons_zero, List.set_cons_succ]
  refine wpAnyH_take (i := 21) (oi := ?o0x21) (v := ?v0x21) ?q0x21 (by kernel_rfl) ?f0x21 ?g0x21 ?p0x21 ?u0x21 (by assumption) ?r0x21
  case q0x21 => (rw [List.getElem?_toArray]; rfl)
  case f0x21 => kernel_rfl
  case g0x21 => kernel_rfl
  case p0x21 => exact (fun _ _ _ h => h)
  case u0x21 => (refine Or.inl ⟨by rfl, ?_⟩; intro w hSw; (try dsimp only at hSw); go_simp; (try rw [if_neg (by omega)]); try with_reducible rfl)
  try simp only [Act.put, List.setIfInBounds_toArray, List.set_cons_zero, List.set_cons_succ]
  refine wpAnyH_take (i := 22) (oi := ?o0x22) (v := ?v0x22) ?q0x22 (by kernel_rfl) ?f0x22 ?g0x22 ?p0x22 ?u0x22 (by assumption) ?r0x22
  case q0x22 => (rw [List.getElem?_toArray]; rfl)
  case f0x22 => kernel_rfl
  case g0x22 => kernel_rfl
  case p0x22 => exact (fun _ _ _ h => h)
  case u0x22 => (refine Or.inl ⟨by rfl, ?_⟩; intro w hSw; (try dsimp only at hSw); go_simp; (try rw [if_neg (by omega)]); try with_reducible rfl)
  try simp only [Act.put, List.setIfInBounds_toArray, List.set_cons_zero, List.set_cons_succ]
  refine em_spine (items := [⟨some (3, 5), 4, 6⟩, ⟨some (10, 12), 11, 13⟩, ⟨none, 17, 19⟩, ⟨none, 23, 25⟩]) (E := [⟨6, [0, 6, 2], [], 0, 0⟩, ⟨14, [0], s.data.toList ++ [46, 106], 1, 11⟩, ⟨16, [], s.data.toList ++ [46, 107], 1, 18⟩, ⟨17, [], s.data.toList ++ [46, 106], 2, 24⟩]) (r0 := 4) (by kernel_rfl) (by kernel_rfl) (by kernel_rfl) (by rfl) ?lb1 (by rfl) (by rfl) ?len1 (fun w' l' C => (C.mk HM.out).c5) (HC.out.quiet (Mod.refl _ _).drew) (by kernel_rfl) ?_
  case lb1 => (intro e he hk; simp only [List.mem_cons, List.not_mem_nil, or_false] at he; rcases he with rfl | rfl | rfl | rfl <;> (first | exact absurd rfl hk | exact (congrArg Value.string (bytes_cat s [46, 106])).symm | exact (congrArg Value.string (bytes_cat s [46, 107])).symm))
  case len1 => (first | (simp [takeCode, giveCode, joinCode, awayCode, eachCode, turnGo, waitGo, turnCode] <;> omega) | (simp <;> omega))
  intro U x1 C hU
  have u6 : U 6 = _ := hU 0 _ rfl
  have u13 : U 13 = _ := hU 1 _ rfl
  have u19 : U 19 = _ := hU 2 _ rfl
  have u25 : U 25 = _ := hU 3 _ rfl
  simp only [spTmps, SpI.tmps, List.flatMap_cons, List.flatMap_nil, Option.map_some, Option.map_none, Option.toList_some, Option.toList_none, List.cons_append, List.nil_append, List.append_nil, patch, List.foldl_cons, List.foldl_nil, Act.put, List.setIfInBounds_toArray, List.set_cons_zero, List.set_cons_succ, u6, u13, u19, u25]
  generalize U 5 = s5 at *
  generalize U 12 = s12 at *
  clear u6 u13 u19 u25 hU hHeld
  simp only [List.map_cons, List.map_nil, EmC.ins, List.getD_cons_zero, List.getD_cons_succ, List.getD_nil] at C
  have HC1 := Lib.hid C
  clear C
  have h5 := (HC1.out.mk HM.out).c5
  go_wp2_with fail
  clear h5
  have hg := gtake_chain HC1.out (HC1.out.mk HM.out) (by simp [takeCode, giveCode, joinCode, awayCode, eachCode, turnGo, waitGo, turnCode] <;> omega) Hn.out hs
  refine hg.mono ?_
  rintro e x2 ⟨rfl, C⟩
  have HC2 := Lib.hid C
  clear C hg
  have h5 := (HC2.out.mk HM.out).c5
  go_wp2_with fail
  refine (op3_chain (HC2.out.quiet ((Mod.refl _ _).alloc _)) (by simp [takeCode, giveCode, joinCode, awayCode, eachCode, turnGo, waitGo, turnCode] <;> omega) 6 _ rfl x2.heap.size 0 7 2 3 (by simp) (by simp) (by simp) (by simp)).mono ?_
  clear h5
  rintro e x3 ⟨rfl, C⟩
  have HC3 := Lib.hid C
  clear C
  have h5 := (HC3.out.mk HM.out).c5
  go_wp2_with fail
  refine (op3_chain (HC3.out.quiet ((Mod.refl _ _).alloc _)) (by simp [takeCode, giveCode, joinCode, awayCode, eachCode, turnGo, waitGo, turnCode] <;> omega) 7 _ rfl x3.heap.size 6 0 1 3 (by simp) (by simp) (by simp) (by simp)).mono ?_
  clear h5
  rintro e x4 ⟨rfl, C⟩
  have HC4 := Lib.hid C
  clear C
  have h5 := (HC4.out.mk HM.out).c5
  go_wp2_with fail
  refine (op3_chain (HC4.out.quiet ((Mod.refl _ _).alloc _)) (by simp [takeCode, giveCode, joinCode, awayCode, eachCode, turnGo, waitGo, turnCode] <;> omega) 7 _ rfl x4.heap.size 7 6 2 3 (by simp) (by simp) (by simp) (by simp)).mono ?_
  clear h5
  rintro e x5 ⟨rfl, C⟩
  have HC5 := Lib.hid C
  clear C
  have h5 := (HC5.out.mk HM.out).c5
  go_wp2_with fail
  refine (op2_chain (HC5.out.quiet ((Mod.refl _ _).alloc _)) (by simp [takeCode, giveCode, joinCode, awayCode, eachCode, turnGo, waitGo, turnCode] <;> omega) 0 _ rfl x5.heap.size 0 1 2 (by simp) (by simp) (by simp)).mono ?_
  clear h5
  rintro e x6 ⟨rfl, C⟩
  have HC6 := Lib.hid C
  clear C
  have h5 := (HC6.out.mk HM.out).c5
  go_wp2_with fail
  refine (op3_chain (HC6.out.quiet ((Mod.refl _ _).alloc _)) (by simp [takeCode, giveCode, joinCode, awayCode, eachCode, turnGo, waitGo, turnCode] <;> omega) 7 _ rfl x6.heap.size 6 0 2 3 (by simp) (by simp) (by simp) (by simp)).mono ?_
  clear h5
  rintro e x7 ⟨rfl, C⟩
  have HC7 := Lib.hid C
  clear C
  have h5 := (HC7.out.mk HM.out).c5
  go_wp2_with fail
  clear h5
  have hg := ggive_chain HC7.out (HC7.out.mk HM.out) (by simp [takeCode, giveCode, joinCode, awayCode, eachCode, turnGo, waitGo, turnCode] <;> omega) Hn.out hs
  refine hg.mono ?_
  rintro e x8 ⟨rfl, C⟩
  have HC8 := Lib.hid C
  clear C hg
  go_wp2
  refine wp_region_held_drew (S := fun W => W.cell? ⟨b, 5, none⟩ = some (.string s)) (by kernel_rfl) ((Mod.refl noF _).drew.cell (HC8.out.mk HM.out).c5 (fun e => e)) (fun hHeld => ?_)
  refine wpAnyH_take (i := 0) (oi := ?o8x0) (v := ?v8x0) ?q8x0 (by kernel_rfl) ?f8x0 ?g8x0 ?p8x0 ?u8x0 (by assumption) ?r8x0
  case q8x0 => (rw [List.getElem?_toArray]; rfl)
  case f8x0 => kernel_rfl
  case g8x0 => kernel_rfl
  case p8x0 => exact (fun _ _ _ h => h)
  case u8x0 => (refine Or.inl ⟨by rfl, ?_⟩; intro w hSw; (try dsimp only at hSw); go_simp; (try rw [if_neg (by omega)]); try with_reducible rfl)
  try simp only [Act.put, List.setIfInBounds_toArray, List.set_cons_zero, List.set_cons_succ]
  refine wpAnyH_take (i := 1) (oi := ?o8x1) (v := ?v8x1) ?q8x1 (by kernel_rfl) ?f8x1 ?g8x1 ?p8x1 ?u8x1 (by assumption) ?r8x1
  case q8x1 => (rw [List.getElem?_toArray]; rfl)
  case f8x1 => kernel_rfl
  case g8x1 => kernel_rfl
  case p8x1 => exact (fun _ _ _ h => h)
  case u8x1 => (refine Or.inl ⟨by rfl, ?_⟩; intro w hSw; (try dsimp only at hSw); go_simp; (try rw [if_neg (by omega)]); try with_reducible rfl)
  try simp only [Act.put, List.setIfInBounds_toArray, List.set_cons_zero, List.set_cons_succ]
  refine wpAnyH_take (i := 2) (oi := ?o8x2) (v := ?v8x2) ?q8x2 (by kernel_rfl) ?f8x2 ?g8x2 ?p8x2 ?u8x2 (by assumption) ?r8x2
  case q8x2 => (rw [List.getElem?_toArray]; rfl)
  case f8x2 => kernel_rfl
  case g8x2 => kernel_rfl
  case p8x2 => exact (fun _ _ _ h => h)
  case u8x2 => (refine Or.inl ⟨by rfl, ?_⟩; intro w hSw; (try dsimp only at hSw); go_simp; (try rw [if_neg (by omega)]); try with_reducible rfl)
  try simp only [Act.put, List.setIfInBounds_toArray, List.set_cons_zero, List.set_cons_succ]
  refine wpAnyH_take (i := 3) (oi := ?o8x3) (v := ?v8x3) ?q8x3 (by kernel_rfl) ?f8x3 ?g8x3 ?p8x3 ?u8x3 (by assumption) ?r8x3
  case q8x3 => (rw [List.getElem?_toArray]; rfl)
  case f8x3 => kernel_rfl
  case g8x3 => kernel_rfl
  case p8x3 => exact (fun _ _ _ h => h)
  case u8x3 => (refine Or.inl ⟨by rfl, ?_⟩; intro w hSw; (try dsimp only at hSw); go_simp; (try rw [if_neg (by omega)]); try with_reducible rfl)
  try simp only [Act.put, List.setIfInBounds_toArray, List.set_cons_zero, List.set_cons_succ]
  refine wpAnyH_take (i := 4) (oi := ?o8x4) (v := ?v8x4) ?q8x4 (by kernel_rfl) ?f8x4 ?g8x4 ?p8x4 ?u8x4 (by assumption) ?r8x4
  case q8x4 => (rw [List.getElem?_toArray]; rfl)
  case f8x4 => kernel_rfl
  case g8x4 => kernel_rfl
  case p8x4 => exact (fun _ _ _ h => h)
  case u8x4 => (refine Or.inl ⟨by rfl, ?_⟩; intro w hSw; (try dsimp only at hSw); go_simp; (try rw [if_neg (by omega)]); try with_reducible rfl)
  try simp only [Act.put, List.setIfInBounds_toArray, List.set_cons_zero, List.set_cons_succ]
  refine wpAnyH_take (i := 5) (oi := ?o8x5) (v := ?v8x5) ?q8x5 (by kernel_rfl) ?f8x5 ?g8x5 ?p8x5 ?u8x5 (by assumption) ?r8x5
  case q8x5 => (rw [List.getElem?_toArray]; rfl)
  case f8x5 => kernel_rfl
  case g8x5 => kernel_rfl
  case p8x5 => exact (fun _ _ _ h => h)
  case u8x5 => (refine Or.inl ⟨by rfl, ?_⟩; intro w hSw; (try dsimp only at hSw); go_simp; (try rw [if_neg (by omega)]); try with_reducible rfl)
  try simp only [Act.put, List.setIfInBounds_toArray, List.set_cons_zero, List.set_cons_succ]
  refine wpAnyH_take (i := 6) (oi := ?o8x6) (v := ?v8x6) ?q8x6 (by kernel_rfl) ?f8x6 ?g8x6 ?p8x6 ?u8x6 (by assumption) ?r8x6
  case q8x6 => (rw [List.getElem?_toArray]; rfl)
  case f8x6 => kernel_rfl
  case g8x6 => kernel_rfl
  case p8x6 => exact (fun _ _ _ h => h)
  case u8x6 => (refine Or.inl ⟨by rfl, ?_⟩; intro w hSw; (try dsimp only at hSw); go_simp; (try rw [if_neg (by omega)]); try with_reducible rfl)
  try simp only [Act.put, List.setIfInBounds_toArray, List.set_cons_zero, List.set_cons_succ]
  refine wpAnyH_take (i := 7) (oi := ?o8x7) (v := ?v8x7) ?q8x7 (by kernel_rfl) ?f8x7 ?g8x7 ?p8x7 ?u8x7 (by assumption) ?r8x7
  case q8x7 => (rw [List.getElem?_toArray]; rfl)
  case f8x7 => kernel_rfl
  case g8x7 => kernel_rfl
  case p8x7 => exact (fun _ _ _ h => h)
  case u8x7 => (refine Or.inl ⟨by rfl, ?_⟩; intro w hSw; (try dsimp only at hSw); go_simp; (try rw [if_neg (by omega)]); try with_reducible rfl)
  try simp only [Act.put, List.setIfInBounds_toArray, List.set_cons_zero, List.set_cons_succ]
  refine em_spine (items := [⟨none, 8, 51⟩]) (E := [⟨17, [], s.data.toList ++ [46, 107], 2, 50⟩]) (r0 := 45) (by kernel_rfl) (by kernel_rfl) (by kernel_rfl) (by rfl) ?lb9 (by rfl) (by rfl) ?len9 (fun w' l' C => (C.mk HM.out).c5) (HC8.out.quiet (Mod.refl _ _).drew) (by kernel_rfl) ?_
  case lb9 => (intro e he hk; simp only [List.mem_cons, List.not_mem_nil, or_false] at he; rcases he with rfl <;> (first | exact absurd rfl hk | exact (congrArg Value.string (bytes_cat s [46, 107])).symm))
  case len9 => (first | (simp [takeCode, giveCode, joinCode, awayCode, eachCode, turnGo, waitGo, turnCode] <;> omega) | (simp <;> omega))
  intro U x9 C hU
  have u51 : U 51 = _ := hU 0 _ rfl
  simp only [spTmps, SpI.tmps, List.flatMap_cons, List.flatMap_nil, Option.map_some, Option.map_none, Option.toList_some, Option.toList_none, List.cons_append, List.nil_append, List.append_nil, patch, List.foldl_cons, List.foldl_nil, Act.put, List.setIfInBounds_toArray, List.set_cons_zero, List.set_cons_succ, u51]
  clear u51 hU hHeld
  simp only [List.map_cons, List.map_nil, EmC.ins, List.getD_cons_zero, List.getD_cons_succ, List.getD_nil] at C
  have HC9 := Lib.hid C
  clear C
  go_wp2
  go_end0
  exact ⟨rfl, Hk.out _ _ (by simpa [joinCode, List.append_assoc] using HC9.out)⟩
set_option maxHeartbeats 8000000 in
theorem turnGo_chain {q : ByteArray} {cm cp : Nat} (C : Chain w0 b 4 v0 l w) (Km : Cap w b cm (.pointer (some ⟨b, 0, none⟩))) (Kp : Cap w b cp (.string q)) (hq100 : q.size ≤ 100) (hlen : l.length ≤ 900) :
    Calls Tryd.prog 123 #[.pointer (some ⟨cm, 0, none⟩), .pointer (some ⟨cp, 0, none⟩)] w fun e w' => e = .returned (.tuple #[]) ∧ Chain w0 b 4 v0 (l ++ turnGo q) w' := by
  obtain ⟨v1, C1, hv1, -, hk⟩ := C.re (Mod.refl noF w)
  have HKm := Lib.hid Km
  have HKp := Lib.hid Kp
  have HC := Lib.hid C1
  have Hv := Lib.hid hv1
  have Hk := Lib.hid hk
  clear C C1 hk hv1 Km Kp
  go_enter Tryd.func123, Tryd.ntmps123
  go_wp2
  refine wp_region_held_drew (S := fun W => W.cell? ⟨cm, 0, none⟩ = some (.pointer (some ⟨b, 0, none⟩)) ∧ W.cell? ⟨cp, 0, none⟩ = some (.string q)) (by kernel_rfl) ⟨(Mod.refl noF _).drew.cell (HKm.out.next Hv.out HC.out).cell (fun e => e), (Mod.refl noF _).drew.cell (HKp.out.next Hv.out HC.out).cell (fun e => e)⟩ (fun hHeld => ?_)
  refine wpAnyH_take (i := 0) (oi := ?o0x0) (v := ?v0x0) ?q0x0 (by kernel_rfl) ?f0x0 ?g0x0 ?p0x0 ?u0x0 (by assumption) ?r0x0
  case q0x0 => (rw [List.getElem?_toArray]; rfl)
  case f0x0 => kernel_rfl
  case g0x0 => kernel_rfl
  case p0x0 => exact (fun _ _ _ h => h)
  case u0x0 => (refine Or.inl ⟨by rfl, ?_⟩; intro w hSw; (try dsimp only at hSw); go_simp; (try rw [if_neg (by omega)]); try with_reducible rfl)
  try simp only [Act.put, List.setIfInBounds_toArray, List.set_cons_zero, List.set_cons_succ]
  refine wpAnyH_take (i := 1) (oi := ?o0x1) (v := ?v0x1) ?q0x1 (by kernel_rfl) ?f0x1 ?g0x1 ?p0x1 ?u0x1 (by assumption) ?r0x1
  case q0x1 => (rw [List.getElem?_toArray]; rfl)
  case f0x1 => kernel_rfl
  case g0x1 => kernel_rfl
  case p0x1 => exact (fun _ _ _ h => h)
  case u0x1 => (refine Or.inl ⟨by rfl, ?_⟩; intro w hSw; (try dsimp only at hSw); go_simp; (try rw [if_neg (by omega)]); try with_reducible rfl)
  try simp only [Act.put, List.setIfInBounds_toArray, List.set_cons_zero, List.set_cons_succ]
  refine wpAnyH_take (i := 2) (oi := ?o0x2) (v := ?v0x2) ?q0x2 (by kernel_rfl) ?f0x2 ?g0x2 ?p0x2 ?u0x2 (by assumption) ?r0x2
  case q0x2 => (rw [List.getElem?_toArray]; rfl)
  case f0x2 => kernel_rfl
  case g0x2 => kernel_rfl
  case p0x2 => exact (fun _ _ _ h => h)
  case u0x2 => (refine Or.inl ⟨by rfl, ?_⟩; intro w hSw; (try dsimp only at hSw); go_simp; (try rw [if_neg (by omega)]); try with_reducible rfl)
  try simp only [Act.put, List.setIfInBounds_toArray, List.set_cons_zero, List.set_cons_succ]
  refine wpAnyH_take (i := 7) (oi := ?o0x7) (v := ?v0x7) ?q0x7 (by kernel_rfl) ?f0x7 ?g0x7 ?p0x7 ?u0x7 (by assumption) ?r0x7
  case q0x7 => (rw [List.getElem?_toArray]; rfl)
  case f0x7 => kernel_rfl
  case g0x7 => kernel_rfl
  case p0x7 => exact (fun _ _ _ h => h)
  case u0x7 => (refine Or.inl ⟨by rfl, ?_⟩; intro w hSw; (try dsimp only at hSw); go_simp; (try rw [if_neg (by omega)]); try with_reducible rfl)
  try simp only [Act.put, List.setIfInBounds_toArray, List.set_cons_zero, List.set_cons_succ]
  refine wpAnyH_take (i := 8) (oi := ?o0x8) (v := ?v0x8) ?q0x8 (by kernel_rfl) ?f0x8 ?g0x8 ?p0x8 ?u0x8 (by assumption) ?r0x8
  case q0x8 => (rw [List.getElem?_toArray]; rfl)
  case f0x8 => kernel_rfl
  case g0x8 => kernel_rfl
  case p0x8 => exact (fun _ _ _ h => h)
  case u0x8 => (refine Or.inl ⟨by rfl, ?_⟩; intro w hSw; (try dsimp only at hSw); go_simp; (try rw [if_neg (by omega)]); try with_reducible rfl)
  try simp only [Act.put, List.setIfInBounds_toArray, List.set_cons_zero, List.set_cons_succ]
  refine em_spine (items := [⟨some (3, 5), 4, 6⟩, ⟨some (5, 7), 6, 8⟩, ⟨some (9, 11), 10, 12⟩]) (E := [⟨0, [1, 255], [], 0, 0⟩, ⟨4, [1, 0, 1], [], 0, 0⟩, ⟨14, [1], q.data.toList ++ [110], 1, 10⟩]) (r0 := 4) (by kernel_rfl) (by kernel_rfl) (by kernel_rfl) (by rfl) ?lb1 (by rfl) (by rfl) ?len1 (fun w' l' C => ⟨(HKm.out.next Hv.out C).cell, (HKp.out.next Hv.out C).cell⟩) (HC.out.quiet (Mod.refl _ _).drew) (by kernel_rfl) ?_
  case lb1 => (intro e he hk; simp only [List.mem_cons, List.not_mem_nil, or_false] at he; rcases he with rfl | rfl | rfl <;> (first | exact absurd rfl hk | exact (congrArg Value.string (bytes_cat q [110])).symm))
  case len1 => (first | (simp [takeCode, giveCode, joinCode, awayCode, eachCode, turnGo, waitGo, turnCode] <;> omega) | (simp <;> omega))
  intro U x1 C hU
  have u6 : U 6 = _ := hU 0 _ rfl
  have u8 : U 8 = _ := hU 1 _ rfl
  have u12 : U 12 = _ := hU 2 _ rfl
  simp only [spTmps, SpI.tmps, List.flatMap_cons, List.flatMap_nil, Option.map_some, Option.map_none, Option.toList_some, Option.toList_none, List.cons_append, List.nil_append, List.append_nil, patch, List.foldl_cons, List.foldl_nil, Act.put, List.setIfInBounds_toArray, List.set_cons_zero, List.set_cons_succ, u6, u8, u12]
  generalize U 5 = s5 at *
  generalize U 7 = s7 at *
  generalize U 11 = s11 at *
  clear u6 u8 u12 hU hHeld
  simp only [List.map_cons, List.map_nil, EmC.ins, List.getD_cons_zero, List.getD_cons_succ, List.getD_nil] at C
  have HC1 := Lib.hid C
  clear C
  go_wp2
  refine wp_region_held_drew (S := fun W => W.cell? ⟨cm, 0, none⟩ = some (.pointer (some ⟨b, 0, none⟩)) ∧ W.cell? ⟨cp, 0, none⟩ = some (.string q)) (by kernel_rfl) ⟨(Mod.refl noF _).drew.cell (HKm.out.next Hv.out HC1.out).cell (fun e => e), (Mod.refl noF _).drew.cell (HKp.out.next Hv.out HC1.out).cell (fun e => e)⟩ (fun hHeld => ?_)
  refine wpAnyH_take (i := 0) (oi := ?o1x0) (v := ?v1x0) ?q1x0 (by kernel_rfl) ?f1x0 ?g1x0 ?p1x0 ?u1x0 (by assumption) ?r1x0
  case q1x0 => (rw [List.getElem?_toArray]; rfl)
  case f1x0 => kernel_rfl
  case g1x0 => kernel_rfl
  case p1x0 => exact (fun _ _ _ h => h)
  case u1x0 => (refine Or.inl ⟨by rfl, ?_⟩; intro w hSw; (try dsimp only at hSw); go_simp; (try rw [if_neg (by omega)]); try with_reducible rfl)
  try simp only [Act.put, List.setIfInBounds_toArray, List.set_cons_zero, List.set_cons_succ]
  refine wpAnyH_take (i := 1) (oi := ?o1x1) (v := ?v1x1) ?q1x1 (by kernel_rfl) ?f1x1 ?g1x1 ?p1x1 ?u1x1 (by assumption) ?r1x1
  case q1x1 => (rw [List.getElem?_toArray]; rfl)
  case f1x1 => kernel_rfl
  case g1x1 => kernel_rfl
  case p1x1 => exact (fun _ _ _ h => h)
  case u1x1 => (refine Or.inl ⟨by rfl, ?_⟩; intro w hSw; (try dsimp only at hSw); go_simp; (try rw [if_neg (by omega)]); try with_reducible rfl)
  try simp only [Act.put, List.setIfInBounds_toArray, List.set_cons_zero, List.set_cons_succ]
  refine wpAnyH_take (i := 2) (oi := ?o1x2) (v := ?v1x2) ?q1x2 (by kernel_rfl) ?f1x2 ?g1x2 ?p1x2 ?u1x2 (by assumption) ?r1x2
  case q1x2 => (rw [List.getElem?_toArray]; rfl)
  case f1x2 => kernel_rfl
  case g1x2 => kernel_rfl
  case p1x2 => exact (fun _ _ _ h => h)
  case u1x2 => (refine Or.inl ⟨by rfl, ?_⟩; intro w hSw; (try dsimp only at hSw); go_simp; (try rw [if_neg (by omega)]); try with_reducible rfl)
  try simp only [Act.put, List.setIfInBounds_toArray, List.set_cons_zero, List.set_cons_succ]
  refine wpAnyH_take (i := 11) (oi := ?o1x11) (v := ?v1x11) ?q1x11 (by kernel_rfl) ?f1x11 ?g1x11 ?p1x11 ?u1x11 (by assumption) ?r1x11
  case q1x11 => (rw [List.getElem?_toArray]; rfl)
  case f1x11 => kernel_rfl
  case g1x11 => kernel_rfl
  case p1x11 => exact (fun _ _ _ h => h)
  case u1x11 => (refine Or.inl ⟨by rfl, ?_⟩; intro w hSw; (try dsimp only at hSw); go_simp; (try rw [if_neg (by omega)]); try with_reducible rfl)
  try simp only [Act.put, List.setIfInBounds_toArray, List.set_cons_zero, List.set_cons_succ]
  refine wpAnyH_take (i := 12) (oi := ?o1x12) (v := ?v1x12) ?q1x12 (by kernel_rfl) ?f1x12 ?g1x12 ?p1x12 ?u1x12 (by assumption) ?r1x12
  case q1x12 => (rw [List.getElem?_toArray]; rfl)
  case f1x12 => kernel_rfl
  case g1x12 => kernel_rfl
  case p1x12 => exact (fun _ _ _ h => h)
  case u1x12 => (refine Or.inl ⟨by rfl, ?_⟩; intro w hSw; (try dsimp only at hSw); go_simp; (try rw [if_neg (by omega)]); try with_reducible rfl)
  try simp only [Act.put, List.setIfInBounds_toArray, List.set_cons_zero, List.set_cons_succ]
  refine em_spine (items := [⟨some (3, 16), 4, 17⟩, ⟨some (5, 18), 6, 19⟩, ⟨some (7, 20), 8, 21⟩, ⟨some (9, 22), 10, 23⟩, ⟨some (13, 26), 14, 27⟩]) (E := [⟨6, [1, 7, 0], [], 0, 0⟩, ⟨5, [1, 0, 1], [], 0, 0⟩, ⟨0, [0, 256], [], 0, 0⟩, ⟨4, [1, 1, 0], [], 0, 0⟩, ⟨14, [1], q.data.toList ++ [110], 1, 25⟩]) (r0 := 15) (by kernel_rfl) (by kernel_rfl) (by kernel_rfl) (by rfl) ?lb2 (by rfl) (by rfl) ?len2 (fun w' l' C => ⟨(HKm.out.next Hv.out C).cell, (HKp.out.next Hv.out C).cell⟩) (HC1.out.quiet (Mod.refl _ _).drew) (by kernel_rfl) ?_
  case lb2 => (intro e he hk; simp only [List.mem_cons, List.not_mem_nil, or_false] at he; rcases he with rfl | rfl | rfl | rfl | rfl <;> (first | exact absurd rfl hk | exact (congrArg Value.string (bytes_cat q [110])).symm))
  case len2 => (first | (simp [takeCode, giveCode, joinCode, awayCode, eachCode, turnGo, waitGo, turnCode] <;> omega) | (simp <;> omega))
  intro U x2 C hU
  have u17 : U 17 = _ := hU 0 _ rfl
  have u19 : U 19 = _ := hU 1 _ rfl
  have u21 : U 21 = _ := hU 2 _ rfl
  have u23 : U 23 = _ := hU 3 _ rfl
  have u27 : U 27 = _ := hU 4 _ rfl
  simp only [spTmps, SpI.tmps, List.flatMap_cons, List.flatMap_nil, Option.map_some, Option.map_none, Option.toList_some, Option.toList_none, List.cons_append, List.nil_append, List.append_nil, patch, List.foldl_cons, List.foldl_nil, Act.put, List.setIfInBounds_toArray, List.set_cons_zero, List.set_cons_succ, u17, u19, u21, u23, u27]
  generalize U 16 = s16 at *
  generalize U 18 = s18 at *
  generalize U 20 = s20 at *
  generalize U 22 = s22 at *
  generalize U 26 = s26 at *
  clear u17 u19 u21 u23 u27 hU hHeld
  simp only [List.map_cons, List.map_nil, EmC.ins, List.getD_cons_zero, List.getD_cons_succ, List.getD_nil] at C
  have HC2 := Lib.hid C
  clear C
  go_wp2
  go_end0
  exact ⟨rfl, Hk.out _ _ (by simpa [turnGo, List.append_assoc] using HC2.out)⟩
set_option maxHeartbeats 8000000 in
theorem waitGo_chain {q : ByteArray} {cm cp : Nat} (C : Chain w0 b 4 v0 l w) (Km : Cap w b cm (.pointer (some ⟨b, 0, none⟩))) (Kp : Cap w b cp (.string q)) (hq100 : q.size ≤ 100) (hlen : l.length ≤ 900) :
    Calls Tryd.prog 119 #[.pointer (some ⟨cm, 0, none⟩), .pointer (some ⟨cp, 0, none⟩)] w fun e w' => e = .returned (.tuple #[]) ∧ Chain w0 b 4 v0 (l ++ waitGo q) w' := by
  obtain ⟨v1, C1, hv1, -, hk⟩ := C.re (Mod.refl noF w)
  have HKm := Lib.hid Km
  have HKp := Lib.hid Kp
  have HC := Lib.hid C1
  have Hv := Lib.hid hv1
  have Hk := Lib.hid hk
  clear C C1 hk hv1 Km Kp
  go_enter Tryd.func119, Tryd.ntmps119
  go_wp2
  refine wp_region_held_drew (S := fun W => W.cell? ⟨cm, 0, none⟩ = some (.pointer (some ⟨b, 0, none⟩)) ∧ W.cell? ⟨cp, 0, none⟩ = some (.string q)) (by kernel_rfl) ⟨(Mod.refl noF _).drew.cell (HKm.out.next Hv.out HC.out).cell (fun e => e), (Mod.refl noF _).drew.cell (HKp.out.next Hv.out HC.out).cell (fun e => e)⟩ (fun hHeld => ?_)
  refine wpAnyH_take (i := 0) (oi := ?o0x0) (v := ?v0x0) ?q0x0 (by kernel_rfl) ?f0x0 ?g0x0 ?p0x0 ?u0x0 (by assumption) ?r0x0
  case q0x0 => (rw [List.getElem?_toArray]; rfl)
  case f0x0 => kernel_rfl
  case g0x0 => kernel_rfl
  case p0x0 => exact (fun _ _ _ h => h)
  case u0x0 => (refine Or.inl ⟨by rfl, ?_⟩; intro w hSw; (try dsimp only at hSw); go_simp; (try rw [if_neg (by omega)]); try with_reducible rfl)
  try simp only [Act.put, List.setIfInBounds_toArray, List.set_cons_zero, List.set_cons_succ]
  refine wpAnyH_take (i := 1) (oi := ?o0x1) (v := ?v0x1) ?q0x1 (by kernel_rfl) ?f0x1 ?g0x1 ?p0x1 ?u0x1 (by assumption) ?r0x1
  case q0x1 => (rw [List.getElem?_toArray]; rfl)
  case f0x1 => kernel_rfl
  case g0x1 => kernel_rfl
  case p0x1 => exact (fun _ _ _ h => h)
  case u0x1 => (refine Or.inl ⟨by rfl, ?_⟩; intro w hSw; (try dsimp only at hSw); go_simp; (try rw [if_neg (by omega)]); try with_reducible rfl)
  try simp only [Act.put, List.setIfInBounds_toArray, List.set_cons_zero, List.set_cons_succ]
  refine wpAnyH_take (i := 2) (oi := ?o0x2) (v := ?v0x2) ?q0x2 (by kernel_rfl) ?f0x2 ?g0x2 ?p0x2 ?u0x2 (by assumption) ?r0x2
  case q0x2 => (rw [List.getElem?_toArray]; rfl)
  case f0x2 => kernel_rfl
  case g0x2 => kernel_rfl
  case p0x2 => exact (fun _ _ _ h => h)
  case u0x2 => (refine Or.inl ⟨by rfl, ?_⟩; intro w hSw; (try dsimp only at hSw); go_simp; (try rw [if_neg (by omega)]); try with_reducible rfl)
  try simp only [Act.put, List.setIfInBounds_toArray, List.set_cons_zero, List.set_cons_succ]
  refine wpAnyH_take (i := 3) (oi := ?o0x3) (v := ?v0x3) ?q0x3 (by kernel_rfl) ?f0x3 ?g0x3 ?p0x3 ?u0x3 (by assumption) ?r0x3
  case q0x3 => (rw [List.getElem?_toArray]; rfl)
  case f0x3 => kernel_rfl
  case g0x3 => kernel_rfl
  case p0x3 => exact (fun _ _ _ h => h)
  case u0x3 => (refine Or.inl ⟨by rfl, ?_⟩; intro w hSw; (try dsimp only at hSw); go_simp; (try rw [if_neg (by omega)]); try with_reducible rfl)
  try simp only [Act.put, List.setIfInBounds_toArray, List.set_cons_zero, List.set_cons_succ]
  refine wpAnyH_take (i := 4) (oi := ?o0x4) (v := ?v0x4) ?q0x4 (by kernel_rfl) ?f0x4 ?g0x4 ?p0x4 ?u0x4 (by assumption) ?r0x4
  case q0x4 => (rw [List.getElem?_toArray]; rfl)
  case f0x4 => kernel_rfl
  case g0x4 => kernel_rfl
  case p0x4 => exact (fun _ _ _ h => h)
  case u0x4 => (refine Or.inl ⟨by rfl, ?_⟩; intro w hSw; (try dsimp only at hSw); go_simp; (try rw [if_neg (by omega)]); try with_reducible rfl)
  try simp only [Act.put, List.setIfInBounds_toArray, List.set_cons_zero, List.set_cons_succ]
  refine wpAnyH_take (i := 9) (oi := ?o0x9) (v := ?v0x9) ?q0x9 (by kernel_rfl) ?f0x9 ?g0x9 ?p0x9 ?u0x9 (by assumption) ?r0x9
  case q0x9 => (rw [List.getElem?_toArray]; rfl)
  case f0x9 => kernel_rfl
  case g0x9 => kernel_rfl
  case p0x9 => exact (fun _ _ _ h => h)
  case u0x9 => (refine Or.inl ⟨by rfl, ?_⟩; intro w hSw; (try dsimp only at hSw); go_simp; (try rw [if_neg (by omega)]); try with_reducible rfl)
  try simp only [Act.put, List.setIfInBounds_toArray, List.set_cons_zero, List.set_cons_succ]
  refine wpAnyH_take (i := 10) (oi := ?o0x10) (v := ?v0x10) ?q0x10 (by kernel_rfl) ?f0x10 ?g0x10 ?p0x10 ?u0x10 (by assumption) ?r0x10
  case q0x10 => (rw [List.getElem?_toArray]; rfl)
  case f0x10 => kernel_rfl
  case g0x10 => kernel_rfl
  case p0x10 => exact (fun _ _ _ h => h)
  case u0x10 => (refine Or.inl ⟨by rfl, ?_⟩; intro w hSw; (try dsimp only at hSw); go_simp; (try rw [if_neg (by omega)]); try with_reducible rfl)
  try simp only [Act.put, List.setIfInBounds_toArray, List.set_cons_zero, List.set_cons_succ]
  refine em_spine (items := [⟨some (5, 7), 6, 8⟩, ⟨some (7, 9), 8, 10⟩, ⟨some (11, 13), 12, 14⟩]) (E := [⟨14, [0], q.data.toList ++ [46, 120, 110], 1, 6⟩, ⟨6, [1, 7, 0], [], 0, 0⟩, ⟨15, [0, 1], q.data.toList ++ [46, 120, 110], 1, 12⟩]) (r0 := 4) (by kernel_rfl) (by kernel_rfl) (by kernel_rfl) (by rfl) ?lb1 (by rfl) (by rfl) ?len1 (fun w' l' C => ⟨(HKm.out.next Hv.out C).cell, (HKp.out.next Hv.out C).cell⟩) (HC.out.quiet (Mod.refl _ _).drew) (by kernel_rfl) ?_
  case lb1 => (intro e he hk; simp only [List.mem_cons, List.not_mem_nil, or_false] at he; rcases he with rfl | rfl | rfl <;> (first | exact absurd rfl hk | exact (congrArg Value.string (bytes_cat q [46, 120, 110])).symm))
  case len1 => (first | (simp [takeCode, giveCode, joinCode, awayCode, eachCode, turnGo, waitGo, turnCode] <;> omega) | (simp <;> omega))
  intro U x1 C hU
  have u8 : U 8 = _ := hU 0 _ rfl
  have u10 : U 10 = _ := hU 1 _ rfl
  have u14 : U 14 = _ := hU 2 _ rfl
  simp only [spTmps, SpI.tmps, List.flatMap_cons, List.flatMap_nil, Option.map_some, Option.map_none, Option.toList_some, Option.toList_none, List.cons_append, List.nil_append, List.append_nil, patch, List.foldl_cons, List.foldl_nil, Act.put, List.setIfInBounds_toArray, List.set_cons_zero, List.set_cons_succ, u8, u10, u14]
  generalize U 7 = s7 at *
  generalize U 9 = s9 at *
  generalize U 13 = s13 at *
  clear u8 u10 u14 hU hHeld
  simp only [List.map_cons, List.map_nil, EmC.ins, List.getD_cons_zero, List.getD_cons_succ, List.getD_nil] at C
  have HC1 := Lib.hid C
  clear C
  go_wp2
  go_end0
  exact ⟨rfl, Hk.out _ _ (by simpa [waitGo, List.append_assoc] using HC1.out)⟩
set_option maxHeartbeats 8000000 in
theorem eachTurn_chain {q : ByteArray} {cm cp : Nat} (p : ByteArray) (hp100 : p.size ≤ 100) (C : Chain w0 b 4 v0 l w) (Km : Cap w b cm (.pointer (some ⟨b, 0, none⟩))) (Kp : Cap w b cp (.string q)) (hq100 : q.size ≤ 100) (hlen : l.length ≤ 800) :
    Calls Tryd.prog 118 #[.pointer (some ⟨b, 0, none⟩), .string p, .func (.func 123) #[] #[.pointer (some ⟨cm, 0, none⟩), .pointer (some ⟨cp, 0, none⟩)]] w fun e w' => e = .returned (.tuple #[]) ∧ Chain w0 b 4 v0 (l ++ eachCode (turnGo q) p) w' := by
  obtain ⟨v1, C1, hv1, -, hk⟩ := C.re (Mod.refl noF w)
  have HKm := Lib.hid Km
  have HKp := Lib.hid Kp
  have HC := Lib.hid C1
  have Hv := Lib.hid hv1
  have Hk := Lib.hid hk
  clear C C1 hk hv1 Km Kp
  go_enter Tryd.func118, Tryd.ntmps118
  go_wp2_with fail
  refine (op3_chain (HC.out.quiet ((Mod.refl _ _).alloc _)) (by first | omega | simp) 6 _ rfl w.heap.size 2 7 2 3 (by simp) (by simp) (by simp) (by simp)).mono ?_
  rintro e x1 ⟨rfl, C⟩
  have HC1 := Lib.hid C
  clear C
  go_wp2_with fail
  refine (label_chain HC1.out (by simp [takeCode, giveCode, joinCode, awayCode, eachCode, turnGo, waitGo, turnCode] <;> omega) (p.data.toList ++ [108]) _ (bytes_cat p _)).mono ?_
  rintro e x2 ⟨rfl, C⟩
  have HC2 := Lib.hid C
  clear C
  go_wp2_with fail
  refine (to1_chain (HC2.out.quiet ((Mod.refl _ _).alloc _)) (by simp [takeCode, giveCode, joinCode, awayCode, eachCode, turnGo, waitGo, turnCode] <;> omega) 14 _ rfl (p.data.toList ++ [111]) _ (bytes_cat p _) x2.heap.size 2 1 (by simp) (by simp)).mono ?_
  rintro e x3 ⟨rfl, C⟩
  have HC3 := Lib.hid C
  clear C
  go_wp2_with fail
  refine (label_chain HC3.out (by simp [takeCode, giveCode, joinCode, awayCode, eachCode, turnGo, waitGo, turnCode] <;> omega) (p.data.toList ++ [115]) _ (bytes_cat p _)).mono ?_
  rintro e x4 ⟨rfl, C⟩
  have HC4 := Lib.hid C
  clear C
  go_wp2_with fail
  refine (op3_chain (HC4.out.quiet ((Mod.refl _ _).alloc _)) (by simp [takeCode, giveCode, joinCode, awayCode, eachCode, turnGo, waitGo, turnCode] <;> omega) 6 _ rfl x4.heap.size 0 2 0 3 (by simp) (by simp) (by simp) (by simp)).mono ?_
  rintro e x5 ⟨rfl, C⟩
  have HC5 := Lib.hid C
  clear C
  go_wp2_with fail
  have hg := turnGo_chain HC5.out (HKm.out.next Hv.out HC5.out) (HKp.out.next Hv.out HC5.out) hq100 (by simp [takeCode, giveCode, joinCode, awayCode, eachCode, turnGo, waitGo, turnCode] <;> omega)
  refine hg.mono ?_
  rintro e x6 ⟨rfl, C⟩
  have HC6 := Lib.hid C
  clear C hg
  go_wp2_with fail
  refine (to0_chain HC6.out (by simp [takeCode, giveCode, joinCode, awayCode, eachCode, turnGo, waitGo, turnCode] <;> omega) 16 _ rfl (p.data.toList ++ [115]) _ (bytes_cat p _)).mono ?_
  rintro e x7 ⟨rfl, C⟩
  have HC7 := Lib.hid C
  clear C
  go_wp2_with fail
  refine (label_chain HC7.out (by simp [takeCode, giveCode, joinCode, awayCode, eachCode, turnGo, waitGo, turnCode] <;> omega) (p.data.toList ++ [110]) _ (bytes_cat p _)).mono ?_
  rintro e x8 ⟨rfl, C⟩
  have HC8 := Lib.hid C
  clear C
  go_wp2_with fail
  refine (op3_chain (HC8.out.quiet ((Mod.refl _ _).alloc _)) (by simp [takeCode, giveCode, joinCode, awayCode, eachCode, turnGo, waitGo, turnCode] <;> omega) 6 _ rfl x8.heap.size 2 2 1 3 (by simp) (by simp) (by simp) (by simp)).mono ?_
  rintro e x9 ⟨rfl, C⟩
  have HC9 := Lib.hid C
  clear C
  go_wp2_with fail
  refine (to0_chain HC9.out (by simp [takeCode, giveCode, joinCode, awayCode, eachCode, turnGo, waitGo, turnCode] <;> omega) 16 _ rfl (p.data.toList ++ [108]) _ (bytes_cat p _)).mono ?_
  rintro e x10 ⟨rfl, C⟩
  have HC10 := Lib.hid C
  clear C
  go_wp2_with fail
  refine (label_chain HC10.out (by simp [takeCode, giveCode, joinCode, awayCode, eachCode, turnGo, waitGo, turnCode] <;> omega) (p.data.toList ++ [111]) _ (bytes_cat p _)).mono ?_
  rintro e x11 ⟨rfl, C⟩
  have HC11 := Lib.hid C
  clear C
  go_wp2
  go_end0
  exact ⟨rfl, Hk.out _ _ (by simpa [eachCode, List.append_assoc] using HC11.out)⟩
set_option maxHeartbeats 8000000 in
theorem eachWait_chain {q : ByteArray} {cm cp : Nat} (p : ByteArray) (hp100 : p.size ≤ 100) (C : Chain w0 b 4 v0 l w) (Km : Cap w b cm (.pointer (some ⟨b, 0, none⟩))) (Kp : Cap w b cp (.string q)) (hq100 : q.size ≤ 100) (hlen : l.length ≤ 800) :
    Calls Tryd.prog 118 #[.pointer (some ⟨b, 0, none⟩), .string p, .func (.func 119) #[] #[.pointer (some ⟨cm, 0, none⟩), .pointer (some ⟨cp, 0, none⟩)]] w fun e w' => e = .returned (.tuple #[]) ∧ Chain w0 b 4 v0 (l ++ eachCode (waitGo q) p) w' := by
  obtain ⟨v1, C1, hv1, -, hk⟩ := C.re (Mod.refl noF w)
  have HKm := Lib.hid Km
  have HKp := Lib.hid Kp
  have HC := Lib.hid C1
  have Hv := Lib.hid hv1
  have Hk := Lib.hid hk
  clear C C1 hk hv1 Km Kp
  go_enter Tryd.func118, Tryd.ntmps118
  go_wp2_with fail
  refine (op3_chain (HC.out.quiet ((Mod.refl _ _).alloc _)) (by first | omega | simp) 6 _ rfl w.heap.size 2 7 2 3 (by simp) (by simp) (by simp) (by simp)).mono ?_
  rintro e x1 ⟨rfl, C⟩
  have HC1 := Lib.hid C
  clear C
  go_wp2_with fail
  refine (label_chain HC1.out (by simp [takeCode, giveCode, joinCode, awayCode, eachCode, turnGo, waitGo, turnCode] <;> omega) (p.data.toList ++ [108]) _ (bytes_cat p _)).mono ?_
  rintro e x2 ⟨rfl, C⟩
  have HC2 := Lib.hid C
  clear C
  go_wp2_with fail
  refine (to1_chain (HC2.out.quiet ((Mod.refl _ _).alloc _)) (by simp [takeCode, giveCode, joinCode, awayCode, eachCode, turnGo, waitGo, turnCode] <;> omega) 14 _ rfl (p.data.toList ++ [111]) _ (bytes_cat p _) x2.heap.size 2 1 (by simp) (by simp)).mono ?_
  rintro e x3 ⟨rfl, C⟩
  have HC3 := Lib.hid C
  clear C
  go_wp2_with fail
  refine (label_chain HC3.out (by simp [takeCode, giveCode, joinCode, awayCode, eachCode, turnGo, waitGo, turnCode] <;> omega) (p.data.toList ++ [115]) _ (bytes_cat p _)).mono ?_
  rintro e x4 ⟨rfl, C⟩
  have HC4 := Lib.hid C
  clear C
  go_wp2_with fail
  refine (op3_chain (HC4.out.quiet ((Mod.refl _ _).alloc _)) (by simp [takeCode, giveCode, joinCode, awayCode, eachCode, turnGo, waitGo, turnCode] <;> omega) 6 _ rfl x4.heap.size 0 2 0 3 (by simp) (by simp) (by simp) (by simp)).mono ?_
  rintro e x5 ⟨rfl, C⟩
  have HC5 := Lib.hid C
  clear C
  go_wp2_with fail
  have hg := waitGo_chain HC5.out (HKm.out.next Hv.out HC5.out) (HKp.out.next Hv.out HC5.out) hq100 (by simp [takeCode, giveCode, joinCode, awayCode, eachCode, turnGo, waitGo, turnCode] <;> omega)
  refine hg.mono ?_
  rintro e x6 ⟨rfl, C⟩
  have HC6 := Lib.hid C
  clear C hg
  go_wp2_with fail
  refine (to0_chain HC6.out (by simp [takeCode, giveCode, joinCode, awayCode, eachCode, turnGo, waitGo, turnCode] <;> omega) 16 _ rfl (p.data.toList ++ [115]) _ (bytes_cat p _)).mono ?_
  rintro e x7 ⟨rfl, C⟩
  have HC7 := Lib.hid C
  clear C
  go_wp2_with fail
  refine (label_chain HC7.out (by simp [takeCode, giveCode, joinCode, awayCode, eachCode, turnGo, waitGo, turnCode] <;> omega) (p.data.toList ++ [110]) _ (bytes_cat p _)).mono ?_
  rintro e x8 ⟨rfl, C⟩
  have HC8 := Lib.hid C
  clear C
  go_wp2_with fail
  refine (op3_chain (HC8.out.quiet ((Mod.refl _ _).alloc _)) (by simp [takeCode, giveCode, joinCode, awayCode, eachCode, turnGo, waitGo, turnCode] <;> omega) 6 _ rfl x8.heap.size 2 2 1 3 (by simp) (by simp) (by simp) (by simp)).mono ?_
  rintro e x9 ⟨rfl, C⟩
  have HC9 := Lib.hid C
  clear C
  go_wp2_with fail
  refine (to0_chain HC9.out (by simp [takeCode, giveCode, joinCode, awayCode, eachCode, turnGo, waitGo, turnCode] <;> omega) 16 _ rfl (p.data.toList ++ [108]) _ (bytes_cat p _)).mono ?_
  rintro e x10 ⟨rfl, C⟩
  have HC10 := Lib.hid C
  clear C
  go_wp2_with fail
  refine (label_chain HC10.out (by simp [takeCode, giveCode, joinCode, awayCode, eachCode, turnGo, waitGo, turnCode] <;> omega) (p.data.toList ++ [111]) _ (bytes_cat p _)).mono ?_
  rintro e x11 ⟨rfl, C⟩
  have HC11 := Lib.hid C
  clear C
  go_wp2
  go_end0
  exact ⟨rfl, Hk.out _ _ (by simpa [eachCode, List.append_assoc] using HC11.out)⟩
set_option maxHeartbeats 8000000 in
theorem gturn_chain (q : ByteArray) (hq100 : q.size ≤ 100) (n : Nat) (hbr : opStr n = br) (C : Chain w0 b 4 v0 l w) (M : MkAt w b br fe jo co s) (hlen : l.length ≤ 700) :
    Calls Tryd.prog 116 #[.pointer (some ⟨b, 0, none⟩), .string q] w fun e w' => e = .returned (.tuple #[]) ∧ Chain w0 b 4 v0 (l ++ turnCode n q) w' := by
  have hq : Mod noF w ((w.alloc (.cells #[.pointer (some ⟨b, 0, none⟩)] 142)).alloc (.cells #[.string q] 9)) := ((Mod.refl noF w).alloc _).alloc _
  have HKm := Lib.hid (C.cap (c := w.heap.size) (u := .pointer (some ⟨b, 0, none⟩)) hq (by omega) (by simp; omega) (by simp))
  have HKp := Lib.hid (C.cap (c := w.heap.size + 1) (u := .string q) hq (by omega) (by simp) (by simp))
  have HM := Lib.hid (M.quiet hq)
  obtain ⟨v1, C1, hv1, -, hk⟩ := C.re hq
  have HC := Lib.hid C1
  have Hv := Lib.hid hv1
  have Hk := Lib.hid hk
  clear C C1 hk hv1 M hq
  go_enter Tryd.func116, Tryd.ntmps116
  go_wp2
  refine wp_region_held_drew (S := fun W => W.cell? ⟨w.heap.size, 0, none⟩ = some (.pointer (some ⟨b, 0, none⟩)) ∧ W.cell? ⟨b, 0, none⟩ = some (.string br)) (by kernel_rfl) ⟨(Mod.refl noF _).drew.cell (HKm.out.next Hv.out HC.out).cell (fun e => e), (Mod.refl noF _).drew.cell (HC.out.mk HM.out).c0 (fun e => e)⟩ (fun hHeld => ?_)
  refine wpAnyH_take (i := 0) (oi := ?o0x0) (v := ?v0x0) ?q0x0 (by kernel_rfl) ?f0x0 ?g0x0 ?p0x0 ?u0x0 (by assumption) ?r0x0
  case q0x0 => (rw [List.getElem?_toArray]; rfl)
  case f0x0 => kernel_rfl
  case g0x0 => kernel_rfl
  case p0x0 => exact (fun _ _ _ h => h)
  case u0x0 => (refine Or.inl ⟨by rfl, ?_⟩; intro w hSw; (try dsimp only at hSw); go_simp; (try rw [if_neg (by omega)]); try with_reducible rfl)
  try simp only [Act.put, List.setIfInBounds_toArray, List.set_cons_zero, List.set_cons_succ]
  refine wpAnyH_take (i := 1) (oi := ?o0x1) (v := ?v0x1) ?q0x1 (by kernel_rfl) ?f0x1 ?g0x1 ?p0x1 ?u0x1 (by assumption) ?r0x1
  case q0x1 => (rw [List.getElem?_toArray]; rfl)
  case f0x1 => kernel_rfl
  case g0x1 => kernel_rfl
  case p0x1 => exact (fun _ _ _ h => h)
  case u0x1 => (refine Or.inl ⟨by rfl, ?_⟩; intro w hSw; (try dsimp only at hSw); go_simp; (try rw [if_neg (by omega)]); try with_reducible rfl)
  try simp only [Act.put, List.setIfInBounds_toArray, List.set_cons_zero, List.set_cons_succ]
  refine wpAnyH_take (i := 2) (oi := ?o0x2) (v := ?v0x2) ?q0x2 (by kernel_rfl) ?f0x2 ?g0x2 ?p0x2 ?u0x2 (by assumption) ?r0x2
  case q0x2 => (rw [List.getElem?_toArray]; rfl)
  case f0x2 => kernel_rfl
  case g0x2 => kernel_rfl
  case p0x2 => exact (fun _ _ _ h => h)
  case u0x2 => (refine Or.inl ⟨by rfl, ?_⟩; intro w hSw; (try dsimp only at hSw); go_simp; (try rw [if_neg (by omega)]); try with_reducible rfl)
  try simp only [Act.put, List.setIfInBounds_toArray, List.set_cons_zero, List.set_cons_succ]
  refine wpAnyH_take (i := 11) (oi := ?o0x11) (v := ?v0x11) ?q0x11 (by kernel_rfl) ?f0x11 ?g0x11 ?p0x11 ?u0x11 (by assumption) ?r0x11
  case q0x11 => (rw [List.getElem?_toArray]; rfl)
  case f0x11 => kernel_rfl
  case g0x11 => kernel_rfl
  case p0x11 => exact (fun _ _ _ h => h)
  case u0x11 => (refine Or.inl ⟨by rfl, ?_⟩; intro w hSw; (try dsimp only at hSw); go_simp; (try rw [if_neg (by omega)]); try with_reducible rfl)
  try simp only [Act.put, List.setIfInBounds_toArray, List.set_cons_zero, List.set_cons_succ]
  refine wpAnyH_take (i := 12) (oi := ?o0x12) (v := ?v0x12) ?q0x12 (by kernel_rfl) ?f0x12 ?g0x12 ?p0x12 ?u0x12 (by assumption) ?r0x12
  case q0x12 => (rw [List.getElem?_toArray]; rfl)
  case f0x12 => kernel_rfl
  case g0x12 => kernel_rfl
  case p0x12 => exact (fun _ _ _ h => h)
  case u0x12 => (refine Or.inl ⟨by rfl, ?_⟩; intro w hSw; (try dsimp only at hSw); go_simp; (try rw [if_neg (by omega)]); try with_reducible rfl)
  try simp only [Act.put, List.setIfInBounds_toArray, List.set_cons_zero, List.set_cons_succ]
  refine wpAnyH_take (i := 13) (oi := ?o0x13) (v := ?v0x13) ?q0x13 (by kernel_rfl) ?f0x13 ?g0x13 ?p0x13 ?u0x13 (by assumption) ?r0x13
  case q0x13 => (rw [List.getElem?_toArray]; rfl)
  case f0x13 => kernel_rfl
  case g0x13 => kernel_rfl
  case p0x13 => exact (fun _ _ _ h => h)
  case u0x13 => (refine Or.inl ⟨by rfl, ?_⟩; intro w hSw; (try dsimp only at hSw); go_simp; (try rw [if_neg (by omega)]); try with_reducible rfl)
  try simp only [Act.put, List.setIfInBounds_toArray, List.set_cons_zero, List.set_cons_succ]
  refine wpAnyH_take (i := 14) (oi := ?o0x14) (v := ?v0x14) ?q0x14 (by kernel_rfl) ?f0x14 ?g0x14 ?p0x14 ?u0x14 (by assumption) ?r0x14
  case q0x14 => (rw [List.getElem?_toArray]; rfl)
  case f0x14 => kernel_rfl
  case g0x14 => kernel_rfl
  case p0x14 => exact (fun _ _ _ h => h)
  case u0x14 => (refine Or.inl ⟨by rfl, ?_⟩; intro w hSw; (try dsimp only at hSw); go_simp; (try rw [if_neg (by omega)]); try with_reducible rfl)
  try simp only [Act.put, List.setIfInBounds_toArray, List.set_cons_zero, List.set_cons_succ]
  refine wpAnyH_take (i := 15) (oi := ?o0x15) (v := ?v0x15) ?q0x15 (by kernel_rfl) ?f0x15 ?g0x15 ?p0x15 ?u0x15 (by assumption) ?r0x15
  case q0x15 => (rw [List.getElem?_toArray]; rfl)
  case f0x15 => kernel_rfl
  case g0x15 => kernel_rfl
  case p0x15 => exact (fun _ _ _ h => h)
  case u0x15 => (refine Or.inl ⟨by rfl, ?_⟩; intro w hSw; (try dsimp only at hSw); go_simp; (try rw [if_neg (by omega)]); try with_reducible rfl)
  try simp only [Act.put, List.setIfInBounds_toArray, List.set_cons_zero, List.set_cons_succ]
  refine em_spine (items := [⟨some (3, 7), 4, 8⟩, ⟨some (5, 9), 6, 10⟩, ⟨some (7, 11), 8, 12⟩, ⟨some (9, 13), 10, 14⟩, ⟨none, 16, 20⟩]) (E := [⟨6, [0, 7, 0], [], 0, 0⟩, ⟨0, [1, 256], [], 0, 0⟩, ⟨5, [0, 0, 1], [], 0, 0⟩, ⟨7, [7, 0, 0], [], 0, 0⟩, ⟨n, [], [], 3, 19⟩]) (r0 := 6) (by kernel_rfl) (by kernel_rfl) (by kernel_rfl) (by rfl) ?lb1 (by rfl) (by rfl) ?len1 (fun w' l' C => ⟨(HKm.out.next Hv.out C).cell, (C.mk HM.out).c0⟩) (HC.out.quiet (Mod.refl _ _).drew) (by kernel_rfl) ?_
  case lb1 => (intro e he hk; simp only [List.mem_cons, List.not_mem_nil, or_false] at he; rcases he with rfl | rfl | rfl | rfl | rfl <;> (first | exact absurd rfl hk | exact congrArg Value.string (hbr.symm)))
  case len1 => (first | (simp [takeCode, giveCode, joinCode, awayCode, eachCode, turnGo, waitGo, turnCode] <;> omega) | (simp <;> omega))
  intro U x1 C hU
  have u8 : U 8 = _ := hU 0 _ rfl
  have u10 : U 10 = _ := hU 1 _ rfl
  have u12 : U 12 = _ := hU 2 _ rfl
  have u14 : U 14 = _ := hU 3 _ rfl
  have u20 : U 20 = _ := hU 4 _ rfl
  simp only [spTmps, SpI.tmps, List.flatMap_cons, List.flatMap_nil, Option.map_some, Option.map_none, Option.toList_some, Option.toList_none, List.cons_append, List.nil_append, List.append_nil, patch, List.foldl_cons, List.foldl_nil, Act.put, List.setIfInBounds_toArray, List.set_cons_zero, List.set_cons_succ, u8, u10, u12, u14, u20]
  generalize U 7 = s7 at *
  generalize U 9 = s9 at *
  generalize U 11 = s11 at *
  generalize U 13 = s13 at *
  clear u8 u10 u12 u14 u20 hU hHeld
  simp only [List.map_cons, List.map_nil, EmC.ins, List.getD_cons_zero, List.getD_cons_succ, List.getD_nil] at C
  have HC1 := Lib.hid C
  clear C
  have hm := (HKm.out.next Hv.out HC1.out).cell
  have hp := (HKp.out.next Hv.out HC1.out).cell
  go_wp2_with fail
  clear hm hp
  have hg := eachTurn_chain q hq100 HC1.out (HKm.out.next Hv.out HC1.out) (HKp.out.next Hv.out HC1.out) hq100 (by simp [takeCode, giveCode, joinCode, awayCode, eachCode, turnGo, waitGo, turnCode] <;> omega)
  refine hg.mono ?_
  rintro e x2 ⟨rfl, C⟩
  have HC2 := Lib.hid C
  clear C hg
  go_wp2
  go_end0
  exact ⟨rfl, Hk.out _ _ (by simpa [turnCode, List.append_assoc] using HC2.out)⟩
end Go.Proofs.YtppihkneeolomaaDoor
