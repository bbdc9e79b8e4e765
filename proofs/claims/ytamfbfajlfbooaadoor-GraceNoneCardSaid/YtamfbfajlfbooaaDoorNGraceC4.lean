/- package grace, flavour 4: its code, made. -/
import Derived.Test.YtamfbfajlfbooaaDoorNm7
set_option linter.unusedVariables false
set_option linter.unusedSimpArgs false
set_option linter.unusedSectionVars false
namespace Go.Proofs.YtamfbfajlfbooaaDoor
open Go.RowKit Qs Qh
variable {w0 w w1 : World} {b o : Nat} {v0 : Value} {l : List Instr} {br s : ByteArray} {fe jo co : Bool} {u : Value} {c : Nat}
set_option maxRecDepth 4000 in
set_option maxHeartbeats 8000000 in
theorem genter4_ok (s : ByteArray) (w : World) (hn : nameB s.data.toList = true) (hs : s.size ≤ 4) :
    Calls Tryd.prog 120 #[.int .i64 4, .string s] w fun e w' => ∃ v, e = .returned (.tuple #[v, .nilIface]) ∧ Made (preC s.data.toList gc40) w v w' := by
  have Hn := Lib.hid hn
  clear hn
  go_enter Tryd.func120, Tryd.ntmps120
  go_wp2_with fail
  refine (begin4_ok s w Hn.out hs).mono ?_
  rintro e x0 ⟨b, rfl, hm, hb, E, M⟩
  have HC := Lib.hid (Chain.start E)
  have HM := Lib.hid M
  have Hm := Lib.hid hm
  clear hm E M
  have h0 := (HC.out.mk HM.out).c0
  have h1 := (HC.out.mk HM.out).c1
  have h2 := (HC.out.mk HM.out).c2
  have h3 := (HC.out.mk HM.out).c3
  go_wp2_with fail
  clear h0 h1 h2 h3
  have hg := gjoin_chain HC.out (HC.out.mk HM.out) (by first | omega | simp) Hn.out hs
  refine hg.mono ?_
  rintro e x1 ⟨rfl, C⟩
  have HC1 := Lib.hid C
  clear C hg
  have h0 := (HC1.out.mk HM.out).c0
  have h1 := (HC1.out.mk HM.out).c1
  have h2 := (HC1.out.mk HM.out).c2
  have h3 := (HC1.out.mk HM.out).c3
  go_wp2_with fail
  refine (op3_chain (HC1.out.quiet ((Mod.refl _ _).alloc _)) (by simp [takeCode, giveCode, joinCode, awayCode, eachCode, turnGo, waitGo, turnCode] <;> omega) 6 _ rfl x1.heap.size 0 6 0 3 (by simp) (by simp) (by simp) (by simp)).mono ?_
  clear h0 h1 h2 h3
  rintro e x2 ⟨rfl, C⟩
  have HC2 := Lib.hid C
  clear C
  have h0 := (HC2.out.mk HM.out).c0
  have h1 := (HC2.out.mk HM.out).c1
  have h2 := (HC2.out.mk HM.out).c2
  have h3 := (HC2.out.mk HM.out).c3
  go_wp2_with fail
  refine (op2_chain (HC2.out.quiet ((Mod.refl _ _).alloc _)) (by simp [takeCode, giveCode, joinCode, awayCode, eachCode, turnGo, waitGo, turnCode] <;> omega) 0 _ rfl x2.heap.size 1 255 2 (by simp) (by simp) (by simp)).mono ?_
  clear h0 h1 h2 h3
  rintro e x3 ⟨rfl, C⟩
  have HC3 := Lib.hid C
  clear C
  have h0 := (HC3.out.mk HM.out).c0
  have h1 := (HC3.out.mk HM.out).c1
  have h2 := (HC3.out.mk HM.out).c2
  have h3 := (HC3.out.mk HM.out).c3
  go_wp2_with fail
  refine (op3_chain (HC3.out.quiet ((Mod.refl _ _).alloc _)) (by simp [takeCode, giveCode, joinCode, awayCode, eachCode, turnGo, waitGo, turnCode] <;> omega) 4 _ rfl x3.heap.size 1 0 1 3 (by simp) (by simp) (by simp) (by simp)).mono ?_
  clear h0 h1 h2 h3
  rintro e x4 ⟨rfl, C⟩
  have HC4 := Lib.hid C
  clear C
  have h0 := (HC4.out.mk HM.out).c0
  have h1 := (HC4.out.mk HM.out).c1
  have h2 := (HC4.out.mk HM.out).c2
  have h3 := (HC4.out.mk HM.out).c3
  go_wp2_with fail
  refine (to1_chain (HC4.out.quiet ((Mod.refl _ _).alloc _)) (by simp [takeCode, giveCode, joinCode, awayCode, eachCode, turnGo, waitGo, turnCode] <;> omega) 14 _ rfl (s.data.toList ++ [46, 97]) _ (bytes_cat s _) x4.heap.size 1 1 (by simp) (by simp)).mono ?_
  clear h0 h1 h2 h3
  rintro e x5 ⟨rfl, C⟩
  have HC5 := Lib.hid C
  clear C
  have h0 := (HC5.out.mk HM.out).c0
  have h1 := (HC5.out.mk HM.out).c1
  have h2 := (HC5.out.mk HM.out).c2
  have h3 := (HC5.out.mk HM.out).c3
  go_wp2_with fail
  refine (op2_chain (HC5.out.quiet ((Mod.refl _ _).alloc _)) (by simp [takeCode, giveCode, joinCode, awayCode, eachCode, turnGo, waitGo, turnCode] <;> omega) 0 _ rfl x5.heap.size 1 1 2 (by simp) (by simp) (by simp)).mono ?_
  clear h0 h1 h2 h3
  rintro e x6 ⟨rfl, C⟩
  have HC6 := Lib.hid C
  clear C
  have h0 := (HC6.out.mk HM.out).c0
  have h1 := (HC6.out.mk HM.out).c1
  have h2 := (HC6.out.mk HM.out).c2
  have h3 := (HC6.out.mk HM.out).c3
  go_wp2_with fail
  refine (op3_chain (HC6.out.quiet ((Mod.refl _ _).alloc _)) (by simp [takeCode, giveCode, joinCode, awayCode, eachCode, turnGo, waitGo, turnCode] <;> omega) 2 _ rfl x6.heap.size 0 0 1 3 (by simp) (by simp) (by simp) (by simp)).mono ?_
  clear h0 h1 h2 h3
  rintro e x7 ⟨rfl, C⟩
  have HC7 := Lib.hid C
  clear C
  have h0 := (HC7.out.mk HM.out).c0
  have h1 := (HC7.out.mk HM.out).c1
  have h2 := (HC7.out.mk HM.out).c2
  have h3 := (HC7.out.mk HM.out).c3
  go_wp2_with fail
  refine (op3_chain (HC7.out.quiet ((Mod.refl _ _).alloc _)) (by simp [takeCode, giveCode, joinCode, awayCode, eachCode, turnGo, waitGo, turnCode] <;> omega) 7 _ rfl x7.heap.size 6 0 0 3 (by simp) (by simp) (by simp) (by simp)).mono ?_
  clear h0 h1 h2 h3
  rintro e x8 ⟨rfl, C⟩
  have HC8 := Lib.hid C
  clear C
  have h0 := (HC8.out.mk HM.out).c0
  have h1 := (HC8.out.mk HM.out).c1
  have h2 := (HC8.out.mk HM.out).c2
  have h3 := (HC8.out.mk HM.out).c3
  go_wp2_with fail
  refine (to0_chain HC8.out (by simp [takeCode, giveCode, joinCode, awayCode, eachCode, turnGo, waitGo, turnCode] <;> omega) 16 _ rfl (s.data.toList ++ [46, 98]) _ (bytes_cat s _)).mono ?_
  clear h0 h1 h2 h3
  rintro e x9 ⟨rfl, C⟩
  have HC9 := Lib.hid C
  clear C
  have h0 := (HC9.out.mk HM.out).c0
  have h1 := (HC9.out.mk HM.out).c1
  have h2 := (HC9.out.mk HM.out).c2
  have h3 := (HC9.out.mk HM.out).c3
  go_wp2_with fail
  refine (label_chain HC9.out (by simp [takeCode, giveCode, joinCode, awayCode, eachCode, turnGo, waitGo, turnCode] <;> omega) (s.data.toList ++ [46, 97]) _ (bytes_cat s _)).mono ?_
  clear h0 h1 h2 h3
  rintro e x10 ⟨rfl, C⟩
  have HC10 := Lib.hid C
  clear C
  have h0 := (HC10.out.mk HM.out).c0
  have h1 := (HC10.out.mk HM.out).c1
  have h2 := (HC10.out.mk HM.out).c2
  have h3 := (HC10.out.mk HM.out).c3
  go_wp2_with fail
  refine (op3_chain (HC10.out.quiet ((Mod.refl _ _).alloc _)) (by simp [takeCode, giveCode, joinCode, awayCode, eachCode, turnGo, waitGo, turnCode] <;> omega) 6 _ rfl x10.heap.size 0 7 0 3 (by simp) (by simp) (by simp) (by simp)).mono ?_
  clear h0 h1 h2 h3
  rintro e x11 ⟨rfl, C⟩
  have HC11 := Lib.hid C
  clear C
  have h0 := (HC11.out.mk HM.out).c0
  have h1 := (HC11.out.mk HM.out).c1
  have h2 := (HC11.out.mk HM.out).c2
  have h3 := (HC11.out.mk HM.out).c3
  go_wp2_with fail
  refine (op3_chain (HC11.out.quiet ((Mod.refl _ _).alloc _)) (by simp [takeCode, giveCode, joinCode, awayCode, eachCode, turnGo, waitGo, turnCode] <;> omega) 7 _ rfl x11.heap.size 6 0 0 3 (by simp) (by simp) (by simp) (by simp)).mono ?_
  clear h0 h1 h2 h3
  rintro e x12 ⟨rfl, C⟩
  have HC12 := Lib.hid C
  clear C
  have h0 := (HC12.out.mk HM.out).c0
  have h1 := (HC12.out.mk HM.out).c1
  have h2 := (HC12.out.mk HM.out).c2
  have h3 := (HC12.out.mk HM.out).c3
  go_wp2_with fail
  refine (op0_chain HC12.out (by simp [takeCode, giveCode, joinCode, awayCode, eachCode, turnGo, waitGo, turnCode] <;> omega) 12 _ rfl).mono ?_
  clear h0 h1 h2 h3
  rintro e x13 ⟨rfl, C⟩
  have HC13 := Lib.hid C
  clear C
  have h0 := (HC13.out.mk HM.out).c0
  have h1 := (HC13.out.mk HM.out).c1
  have h2 := (HC13.out.mk HM.out).c2
  have h3 := (HC13.out.mk HM.out).c3
  go_wp2_with fail
  refine (label_chain HC13.out (by simp [takeCode, giveCode, joinCode, awayCode, eachCode, turnGo, waitGo, turnCode] <;> omega) (s.data.toList ++ [46, 98]) _ (bytes_cat s _)).mono ?_
  clear h0 h1 h2 h3
  rintro e x14 ⟨rfl, C⟩
  have HC14 := Lib.hid C
  clear C
  obtain ⟨v, ec, hv⟩ := HC14.out.made (w := w) (by simp [Value.ownBlock]) Hm.out hb
  have Hv := Lib.hid hv
  clear hv
  go_wp2
  go_ret2
  exact ⟨v, rfl, by rw [← genter4_eq]; simpa [List.append_assoc] using Hv.out⟩
set_option maxRecDepth 4000 in
set_option maxHeartbeats 8000000 in
theorem gleave4_ok (s : ByteArray) (w : World) (hn : nameB s.data.toList = true) (hs : s.size ≤ 4) :
    Calls Tryd.prog 121 #[.int .i64 4, .string s] w fun e w' => ∃ v, e = .returned (.tuple #[v, .nilIface]) ∧ Made (preC s.data.toList gc41) w v w' := by
  have Hn := Lib.hid hn
  clear hn
  go_enter Tryd.func121, Tryd.ntmps121
  go_wp2_with fail
  refine (begin4_ok s w Hn.out hs).mono ?_
  rintro e x0 ⟨b, rfl, hm, hb, E, M⟩
  have HC := Lib.hid (Chain.start E)
  have HM := Lib.hid M
  have Hm := Lib.hid hm
  clear hm E M
  have h0 := (HC.out.mk HM.out).c0
  have h1 := (HC.out.mk HM.out).c1
  have h2 := (HC.out.mk HM.out).c2
  have h3 := (HC.out.mk HM.out).c3
  go_wp2_with fail
  refine (op0_chain HC.out (by first | omega | simp) 12 _ rfl).mono ?_
  clear h0 h1 h2 h3
  rintro e x1 ⟨rfl, C⟩
  have HC1 := Lib.hid C
  clear C
  have h0 := (HC1.out.mk HM.out).c0
  have h1 := (HC1.out.mk HM.out).c1
  have h2 := (HC1.out.mk HM.out).c2
  have h3 := (HC1.out.mk HM.out).c3
  go_wp2_with fail
  refine (op3_chain (HC1.out.quiet ((Mod.refl _ _).alloc _)) (by simp [takeCode, giveCode, joinCode, awayCode, eachCode, turnGo, waitGo, turnCode] <;> omega) 6 _ rfl x1.heap.size 0 6 0 3 (by simp) (by simp) (by simp) (by simp)).mono ?_
  clear h0 h1 h2 h3
  rintro e x2 ⟨rfl, C⟩
  have HC2 := Lib.hid C
  clear C
  have h0 := (HC2.out.mk HM.out).c0
  have h1 := (HC2.out.mk HM.out).c1
  have h2 := (HC2.out.mk HM.out).c2
  have h3 := (HC2.out.mk HM.out).c3
  go_wp2_with fail
  refine (op2_chain (HC2.out.quiet ((Mod.refl _ _).alloc _)) (by simp [takeCode, giveCode, joinCode, awayCode, eachCode, turnGo, waitGo, turnCode] <;> omega) 0 _ rfl x2.heap.size 1 1 2 (by simp) (by simp) (by simp)).mono ?_
  clear h0 h1 h2 h3
  rintro e x3 ⟨rfl, C⟩
  have HC3 := Lib.hid C
  clear C
  have h0 := (HC3.out.mk HM.out).c0
  have h1 := (HC3.out.mk HM.out).c1
  have h2 := (HC3.out.mk HM.out).c2
  have h3 := (HC3.out.mk HM.out).c3
  go_wp2_with fail
  refine (op3_chain (HC3.out.quiet ((Mod.refl _ _).alloc _)) (by simp [takeCode, giveCode, joinCode, awayCode, eachCode, turnGo, waitGo, turnCode] <;> omega) 3 _ rfl x3.heap.size 0 0 1 3 (by simp) (by simp) (by simp) (by simp)).mono ?_
  clear h0 h1 h2 h3
  rintro e x4 ⟨rfl, C⟩
  have HC4 := Lib.hid C
  clear C
  have h0 := (HC4.out.mk HM.out).c0
  have h1 := (HC4.out.mk HM.out).c1
  have h2 := (HC4.out.mk HM.out).c2
  have h3 := (HC4.out.mk HM.out).c3
  go_wp2_with fail
  refine (op3_chain (HC4.out.quiet ((Mod.refl _ _).alloc _)) (by simp [takeCode, giveCode, joinCode, awayCode, eachCode, turnGo, waitGo, turnCode] <;> omega) 7 _ rfl x4.heap.size 6 0 0 3 (by simp) (by simp) (by simp) (by simp)).mono ?_
  clear h0 h1 h2 h3
  rintro e x5 ⟨rfl, C⟩
  have HC5 := Lib.hid C
  clear C
  obtain ⟨v, ec, hv⟩ := HC5.out.made (w := w) (by simp [Value.ownBlock]) Hm.out hb
  have Hv := Lib.hid hv
  clear hv
  go_wp2
  go_ret2
  exact ⟨v, rfl, by rw [← gleave4_eq]; simpa [List.append_assoc] using Hv.out⟩
set_option maxRecDepth 4000 in
set_option maxHeartbeats 8000000 in
theorem grest4_ok (s : ByteArray) (w : World) (hn : nameB s.data.toList = true) (hs : s.size ≤ 4) :
    Calls Tryd.prog 122 #[.int .i64 4, .string s] w fun e w' => ∃ v, e = .returned (.tuple #[v, .nilIface]) ∧ Made (preC s.data.toList gc42) w v w' := by
  have Hn := Lib.hid hn
  clear hn
  go_enter Tryd.func122, Tryd.ntmps122
  go_wp2_with fail
  refine (begin4_ok s w Hn.out hs).mono ?_
  rintro e x0 ⟨b, rfl, hm, hb, E, M⟩
  have h3 := M.c3
  have Hm := Lib.hid hm
  clear hm hb E M
  go_wp2
  go_ret2
  exact ⟨_, rfl, InsRow.nil _ _, Hm.out.toBelow, by simp [Value.ownBlock]⟩
set_option maxRecDepth 4000 in
set_option maxHeartbeats 8000000 in
theorem ggone4_ok (s : ByteArray) (w : World) (hn : nameB s.data.toList = true) (hs : s.size ≤ 4) :
    Calls Tryd.prog 123 #[.int .i64 4, .string s] w fun e w' => ∃ v, e = .returned (.tuple #[v, .nilIface]) ∧ Made (preC s.data.toList gc43) w v w' := by
  have Hn := Lib.hid hn
  clear hn
  go_enter Tryd.func123, Tryd.ntmps123
  go_wp2_with fail
  refine (begin4_ok s w Hn.out hs).mono ?_
  rintro e x0 ⟨b, rfl, hm, hb, E, M⟩
  have h3 := M.c3
  have Hm := Lib.hid hm
  clear hm hb E M
  go_wp2
  go_ret2
  exact ⟨_, rfl, InsRow.nil _ _, Hm.out.toBelow, by simp [Value.ownBlock]⟩
set_option maxRecDepth 4000 in
set_option maxHeartbeats 8000000 in
theorem gwait4_ok (s : ByteArray) (w : World) (hn : nameB s.data.toList = true) (hs : s.size ≤ 4) :
    Calls Tryd.prog 97 #[.int .i64 4, .string s] w fun e w' => ∃ v, e = .returned (.tuple #[v, .nilIface]) ∧ Made (preC s.data.toList gc44) w v w' := by
  have Hn := Lib.hid hn
  clear hn
  go_enter Tryd.func97, Tryd.ntmps97
  go_wp2_with fail
  refine (begin4_ok s _ Hn.out hs).mono ?_
  rintro e w1 ⟨b, rfl, hm, hb0, E, M⟩
  have hsw := hm.size
  have hlb := E.lt
  have hb1 : w.heap.size < b := by simp at hb0; omega
  have hp0 : w1.cell? ⟨w.heap.size, 0, none⟩ = some (.string s) := hm.cell (by simp) (fun e => e)
  have hq : Mod noF w1 (w1.alloc (.cells #[.pointer (some ⟨b, 0, none⟩)] 216)) := (Mod.refl _ _).alloc _
  have E1 := E.quiet hq
  have HC := Lib.hid (Chain.start E1)
  have HM := Lib.hid (M.quiet hq)
  have Hm := Lib.hid ((((Mod.refl noF w).alloc _).trans0 hm).trans0 hq)
  have Hv := Lib.hid E1.cell
  have hcp : w.heap.size < w1.heap.size := by simp at hsw; omega
  have hrow : ∀ (c : Nat) v, (w1.alloc (.cells #[.pointer (some ⟨b, 0, none⟩)] 216)).cell? ⟨b, 4, none⟩ = some v → v.ownBlock ≠ some c := fun c v h e => by
    rw [E1.cell] at h; cases h; cases e
  have HKm := Lib.hid (⟨by simp, by simp, by omega, hrow _⟩ : Cap (w1.alloc (.cells #[.pointer (some ⟨b, 0, none⟩)] 216)) b w1.heap.size (.pointer (some ⟨b, 0, none⟩)))
  have HKp := Lib.hid (⟨hq.cell hp0 (fun e => e), by simp; omega, by omega, hrow _⟩ : Cap (w1.alloc (.cells #[.pointer (some ⟨b, 0, none⟩)] 216)) b w.heap.size (.string s))
  have hb : w.heap.size ≤ b := by omega
  clear hm E M E1 hq hp0 hrow hsw hb0 hb1
  have h0 := (HC.out.mk HM.out).c0
  have h1 := (HC.out.mk HM.out).c1
  have h2 := (HC.out.mk HM.out).c2
  have h3 := (HC.out.mk HM.out).c3
  have hm := (HKm.out.next Hv.out HC.out).cell
  have hp := (HKp.out.next Hv.out HC.out).cell
  go_wp2
  clear h0 h1 h2 h3 hm hp
  go_wp2
  refine wp_region_held_drew (S := fun W => W.cell? ⟨w1.heap.size, 0, none⟩ = some (.pointer (some ⟨b, 0, none⟩)) ∧ W.cell? ⟨b, 0, none⟩ = some (.string (opStr 12))) (by kernel_rfl) ⟨(Mod.refl noF _).drew.cell (HKm.out.next Hv.out HC.out).cell (fun e => e), (Mod.refl noF _).drew.cell (HC.out.mk HM.out).c0 (fun e => e)⟩ (fun hHeld => ?_)
  refine wpAnyH_take (i := 0) (oi := ?o0x0) (v := ?v0x0) ?q0x0 (by kernel_rfl) ?f0x0 ?g0x0 ?p0x0 ?u0x0 (by assumption) ?r0x0
  case q0x0 => (rw [List.getElem?_toArray]; rfl)
  case f0x0 => kernel_rfl
  case g0x0 => kernel_rfl
  case p0x0 => exact (fun _ _ _ h => h)
  case u0x0 => (refine Or.inl ⟨by rfl, ?_⟩; intro w hSw; (try dsimp only at hSw); go_simp; (try rw [if_neg (by omega)]); try with_reducible rfl)
  try simp only [Act.put, List.setIfInBounds_toArray, List.set_cons_zero, List.set_cons_succ]
  refine wpAnyH_take (i := 1) (oi := ?o0x1) (v := ?v0x1) ?q0x1 (by kernel_rfl) ?f0x1 ?g0x1 ?p0x1 ?u0x1 (by assumption) ?r0x1
  case q0x1 => (rw [List.getElem?_toArray]; rfl)
  case f0x1 => kernel_rfl
  case g0x1 => kernel_rfl
  case p0x1 => exact (fun _ _ _ h => h)
  case u0x1 => (refine Or.inl ⟨by rfl, ?_⟩; intro w hSw; (try dsimp only at hSw); go_simp; (try rw [if_neg (by omega)]); try with_reducible rfl)
  try simp only [Act.put, List.setIfInBounds_toArray, List.set_cons_zero, List.set_cons_succ]
  refine wpAnyH_take (i := 2) (oi := ?o0x2) (v := ?v0x2) ?q0x2 (by kernel_rfl) ?f0x2 ?g0x2 ?p0x2 ?u0x2 (by assumption) ?r0x2
  case q0x2 => (rw [List.getElem?_toArray]; rfl)
  case f0x2 => kernel_rfl
  case g0x2 => kernel_rfl
  case p0x2 => exact (fun _ _ _ h => h)
  case u0x2 => (refine Or.inl ⟨by rfl, ?_⟩; intro w hSw; (try dsimp only at hSw); go_simp; (try rw [if_neg (by omega)]); try with_reducible rfl)
  try simp only [Act.put, List.setIfInBounds_toArray, List.set_cons_zero, List.set_cons_succ]
  refine wpAnyH_take (i := 3) (oi := ?o0x3) (v := ?v0x3) ?q0x3 (by kernel_rfl) ?f0x3 ?g0x3 ?p0x3 ?u0x3 (by assumption) ?r0x3
  case q0x3 => (rw [List.getElem?_toArray]; rfl)
  case f0x3 => kernel_rfl
  case g0x3 => kernel_rfl
  case p0x3 => exact (fun _ _ _ h => h)
  case u0x3 => (refine Or.inl ⟨by rfl, ?_⟩; intro w hSw; (try dsimp only at hSw); go_simp; (try rw [if_neg (by omega)]); try with_reducible rfl)
  try simp only [Act.put, List.setIfInBounds_toArray, List.set_cons_zero, List.set_cons_succ]
  refine wpAnyH_take (i := 4) (oi := ?o0x4) (v := ?v0x4) ?q0x4 (by kernel_rfl) ?f0x4 ?g0x4 ?p0x4 ?u0x4 (by assumption) ?r0x4
  case q0x4 => (rw [List.getElem?_toArray]; rfl)
  case f0x4 => kernel_rfl
  case g0x4 => kernel_rfl
  case p0x4 => exact (fun _ _ _ h => h)
  case u0x4 => (refine Or.inl ⟨by rfl, ?_⟩; intro w hSw; (try dsimp only at hSw); go_simp; (try rw [if_neg (by omega)]); try with_reducible rfl)
  try simp only [Act.put, List.setIfInBounds_toArray, List.set_cons_zero, List.set_cons_succ]
  refine wpAnyH_take (i := 5) (oi := ?o0x5) (v := ?v0x5) ?q0x5 (by kernel_rfl) ?f0x5 ?g0x5 ?p0x5 ?u0x5 (by assumption) ?r0x5
  case q0x5 => (rw [List.getElem?_toArray]; rfl)
  case f0x5 => kernel_rfl
  case g0x5 => kernel_rfl
  case p0x5 => exact (fun _ _ _ h => h)
  case u0x5 => (refine Or.inl ⟨by rfl, ?_⟩; intro w hSw; (try dsimp only at hSw); go_simp; (try rw [if_neg (by omega)]); try with_reducible rfl)
  try simp only [Act.put, List.setIfInBounds_toArray, List.set_cons_zero, List.set_cons_succ]
  refine wpAnyH_take (i := 6) (oi := ?o0x6) (v := ?v0x6) ?q0x6 (by kernel_rfl) ?f0x6 ?g0x6 ?p0x6 ?u0x6 (by assumption) ?r0x6
  case q0x6 => (rw [List.getElem?_toArray]; rfl)
  case f0x6 => kernel_rfl
  case g0x6 => kernel_rfl
  case p0x6 => exact (fun _ _ _ h => h)
  case u0x6 => (refine Or.inl ⟨by rfl, ?_⟩; intro w hSw; (try dsimp only at hSw); go_simp; (try rw [if_neg (by omega)]); try with_reducible rfl)
  try simp only [Act.put, List.setIfInBounds_toArray, List.set_cons_zero, List.set_cons_succ]
  refine wpAnyH_take (i := 7) (oi := ?o0x7) (v := ?v0x7) ?q0x7 (by kernel_rfl) ?f0x7 ?g0x7 ?p0x7 ?u0x7 (by assumption) ?r0x7
  case q0x7 => (rw [List.getElem?_toArray]; rfl)
  case f0x7 => kernel_rfl
  case g0x7 => kernel_rfl
  case p0x7 => exact (fun _ _ _ h => h)
  case u0x7 => (refine Or.inl ⟨by rfl, ?_⟩; intro w hSw; (try dsimp only at hSw); go_simp; (try rw [if_neg (by omega)]); try with_reducible rfl)
  try simp only [Act.put, List.setIfInBounds_toArray, List.set_cons_zero, List.set_cons_succ]
  refine em_spine (items := [⟨none, 8, 31⟩]) (E := [⟨12, [], [], 3, 30⟩]) (r0 := 25) (by kernel_rfl) (by kernel_rfl) (by kernel_rfl) (by rfl) ?lb1 (by rfl) (by rfl) ?len1 (fun w' l' C => ⟨(HKm.out.next Hv.out C).cell, (C.mk HM.out).c0⟩) (HC.out.quiet (Mod.refl _ _).drew) (by kernel_rfl) ?_
  case lb1 => (intro e he hk; simp only [List.mem_cons, List.not_mem_nil, or_false] at he; rcases he with rfl <;> (first | exact absurd rfl hk | exact congrArg Value.string (rfl)))
  case len1 => (first | (simp [takeCode, giveCode, joinCode, awayCode, eachCode, turnGo, waitGo, turnCode] <;> omega) | (simp <;> omega))
  intro U x1 C hU
  have u31 : U 31 = _ := hU 0 _ rfl
  simp only [spTmps, SpI.tmps, List.flatMap_cons, List.flatMap_nil, Option.map_some, Option.map_none, Option.toList_some, Option.toList_none, List.cons_append, List.nil_append, List.append_nil, patch, List.foldl_cons, List.foldl_nil, Act.put, List.setIfInBounds_toArray, List.set_cons_zero, List.set_cons_succ, u31]
  clear u31 hU hHeld
  simp only [List.map_cons, List.map_nil, EmC.ins, List.getD_cons_zero, List.getD_cons_succ, List.getD_nil] at C
  have HC1 := Lib.hid C
  clear C
  have h0 := (HC1.out.mk HM.out).c0
  have h1 := (HC1.out.mk HM.out).c1
  have h2 := (HC1.out.mk HM.out).c2
  have h3 := (HC1.out.mk HM.out).c3
  have hm := (HKm.out.next Hv.out HC1.out).cell
  have hp := (HKp.out.next Hv.out HC1.out).cell
  go_wp2_with fail
  clear h0 h1 h2 h3 hm hp
  have hg := gtake_chain HC1.out (HC1.out.mk HM.out) (by simp [takeCode, giveCode, joinCode, awayCode, eachCode, turnGo, waitGo, turnCode] <;> omega) Hn.out hs
  refine hg.mono ?_
  rintro e x2 ⟨rfl, C⟩
  have HC2 := Lib.hid C
  clear C hg
  have h0 := (HC2.out.mk HM.out).c0
  have h1 := (HC2.out.mk HM.out).c1
  have h2 := (HC2.out.mk HM.out).c2
  have h3 := (HC2.out.mk HM.out).c3
  have hm := (HKm.out.next Hv.out HC2.out).cell
  have hp := (HKp.out.next Hv.out HC2.out).cell
  go_wp2_with fail
  clear h0 h1 h2 h3 hm hp
  have hg := gturn_chain (s ++ ⟨#[46, 120]⟩) (size_plus2 s _ _ hs) 12 rfl HC2.out (HC2.out.mk HM.out) (by simp [takeCode, giveCode, joinCode, awayCode, eachCode, turnGo, waitGo, turnCode] <;> omega)
  refine hg.mono ?_
  rintro e x3 ⟨rfl, C⟩
  have HC3 := Lib.hid C
  clear C hg
  have h0 := (HC3.out.mk HM.out).c0
  have h1 := (HC3.out.mk HM.out).c1
  have h2 := (HC3.out.mk HM.out).c2
  have h3 := (HC3.out.mk HM.out).c3
  have hm := (HKm.out.next Hv.out HC3.out).cell
  have hp := (HKp.out.next Hv.out HC3.out).cell
  go_wp2_with fail
  clear h0 h1 h2 h3 hm hp
  have hg := gturn_chain (s ++ ⟨#[46, 121]⟩) (size_plus2 s _ _ hs) 12 rfl HC3.out (HC3.out.mk HM.out) (by simp [takeCode, giveCode, joinCode, awayCode, eachCode, turnGo, waitGo, turnCode] <;> omega)
  refine hg.mono ?_
  rintro e x4 ⟨rfl, C⟩
  have HC4 := Lib.hid C
  clear C hg
  go_wp2
  refine wp_region_held_drew (S := fun W => W.cell? ⟨w1.heap.size, 0, none⟩ = some (.pointer (some ⟨b, 0, none⟩)) ∧ W.cell? ⟨b, 0, none⟩ = some (.string (opStr 12))) (by kernel_rfl) ⟨(Mod.refl noF _).drew.cell (HKm.out.next Hv.out HC4.out).cell (fun e => e), (Mod.refl noF _).drew.cell (HC4.out.mk HM.out).c0 (fun e => e)⟩ (fun hHeld => ?_)
  refine wpAnyH_take (i := 0) (oi := ?o4x0) (v := ?v4x0) ?q4x0 (by kernel_rfl) ?f4x0 ?g4x0 ?p4x0 ?u4x0 (by assumption) ?r4x0
  case q4x0 => (rw [List.getElem?_toArray]; rfl)
  case f4x0 => kernel_rfl
  case g4x0 => kernel_rfl
  case p4x0 => exact (fun _ _ _ h => h)
  case u4x0 => (refine Or.inl ⟨by rfl, ?_⟩; intro w hSw; (try dsimp only at hSw); go_simp; (try rw [if_neg (by omega)]); try with_reducible rfl)
  try simp only [Act.put, List.setIfInBounds_toArray, List.set_cons_zero, List.set_cons_succ]
  refine wpAnyH_take (i := 1) (oi := ?o4x1) (v := ?v4x1) ?q4x1 (by kernel_rfl) ?f4x1 ?g4x1 ?p4x1 ?u4x1 (by assumption) ?r4x1
  case q4x1 => (rw [List.getElem?_toArray]; rfl)
  case f4x1 => kernel_rfl
  case g4x1 => kernel_rfl
  case p4x1 => exact (fun _ _ _ h => h)
  case u4x1 => (refine Or.inl ⟨by rfl, ?_⟩; intro w hSw; (try dsimp only at hSw); go_simp; (try rw [if_neg (by omega)]); try with_reducible rfl)
  try simp only [Act.put, List.setIfInBounds_toArray, List.set_cons_zero, List.set_cons_succ]
  refine wpAnyH_take (i := 2) (oi := ?o4x2) (v := ?v4x2) ?q4x2 (by kernel_rfl) ?f4x2 ?g4x2 ?p4x2 ?u4x2 (by assumption) ?r4x2
  case q4x2 => (rw [List.getElem?_toArray]; rfl)
  case f4x2 => kernel_rfl
  case g4x2 => kernel_rfl
  case p4x2 => exact (fun _ _ _ h => h)
  case u4x2 => (refine Or.inl ⟨by rfl, ?_⟩; intro w hSw; (try dsimp only at hSw); go_simp; (try rw [if_neg (by omega)]); try with_reducible rfl)
  try simp only [Act.put, List.setIfInBounds_toArray, List.set_cons_zero, List.set_cons_succ]
  refine wpAnyH_take (i := 3) (oi := ?o4x3) (v := ?v4x3) ?q4x3 (by kernel_rfl) ?f4x3 ?g4x3 ?p4x3 ?u4x3 (by assumption) ?r4x3
  case q4x3 => (rw [List.getElem?_toArray]; rfl)
  case f4x3 => kernel_rfl
  case g4x3 => kernel_rfl
  case p4x3 => exact (fun _ _ _ h => h)
  case u4x3 => (refine Or.inl ⟨by rfl, ?_⟩; intro w hSw; (try dsimp only at hSw); go_simp; (try rw [if_neg (by omega)]); try with_reducible rfl)
  try simp only [Act.put, List.setIfInBounds_toArray, List.set_cons_zero, List.set_cons_succ]
  refine wpAnyH_take (i := 4) (oi := ?o4x4) (v := ?v4x4) ?q4x4 (by kernel_rfl) ?f4x4 ?g4x4 ?p4x4 ?u4x4 (by assumption) ?r4x4
  case q4x4 => (rw [List.getElem?_toArray]; rfl)
  case f4x4 => kernel_rfl
  case g4x4 => kernel_rfl
  case p4x4 => exact (fun _ _ _ h => h)
  case u4x4 => (refine Or.inl ⟨by rfl, ?_⟩; intro w hSw; (try dsimp only at hSw); go_simp; (try rw [if_neg (by omega)]); try with_reducible rfl)
  try simp only [Act.put, List.setIfInBounds_toArray, List.set_cons_zero, List.set_cons_succ]
  refine wpAnyH_take (i := 5) (oi := ?o4x5) (v := ?v4x5) ?q4x5 (by kernel_rfl) ?f4x5 ?g4x5 ?p4x5 ?u4x5 (by assumption) ?r4x5
  case q4x5 => (rw [List.getElem?_toArray]; rfl)
  case f4x5 => kernel_rfl
  case g4x5 => kernel_rfl
  case p4x5 => exact (fun _ _ _ h => h)
  case u4x5 => (refine Or.inl ⟨by rfl, ?_⟩; intro w hSw; (try dsimp only at hSw); go_simp; (try rw [if_neg (by omega)]); try with_reducible rfl)
  try simp only [Act.put, List.setIfInBounds_toArray, List.set_cons_zero, List.set_cons_succ]
  refine wpAnyH_take (i := 6) (oi := ?o4x6) (v := ?v4x6) ?q4x6 (by kernel_rfl) ?f4x6 ?g4x6 ?p4x6 ?u4x6 (by assumption) ?r4x6
  case q4x6 => (rw [List.getElem?_toArray]; rfl)
  case f4x6 => kernel_rfl
  case g4x6 => kernel_rfl
  case p4x6 => exact (fun _ _ _ h => h)
  case u4x6 => (refine Or.inl ⟨by rfl, ?_⟩; intro w hSw; (try dsimp only at hSw); go_simp; (try rw [if_neg (by omega)]); try with_reducible rfl)
  try simp only [Act.put, List.setIfInBounds_toArray, List.set_cons_zero, List.set_cons_succ]
  refine wpAnyH_take (i := 7) (oi := ?o4x7) (v := ?v4x7) ?q4x7 (by kernel_rfl) ?f4x7 ?g4x7 ?p4x7 ?u4x7 (by assumption) ?r4x7
  case q4x7 => (rw [List.getElem?_toArray]; rfl)
  case f4x7 => kernel_rfl
  case g4x7 => kernel_rfl
  case p4x7 => exact (fun _ _ _ h => h)
  case u4x7 => (refine Or.inl ⟨by rfl, ?_⟩; intro w hSw; (try dsimp only at hSw); go_simp; (try rw [if_neg (by omega)]); try with_reducible rfl)
  try simp only [Act.put, List.setIfInBounds_toArray, List.set_cons_zero, List.set_cons_succ]
  refine em_spine (items := [⟨none, 8, 50⟩]) (E := [⟨12, [], [], 3, 49⟩]) (r0 := 44) (by kernel_rfl) (by kernel_rfl) (by kernel_rfl) (by rfl) ?lb5 (by rfl) (by rfl) ?len5 (fun w' l' C => ⟨(HKm.out.next Hv.out C).cell, (C.mk HM.out).c0⟩) (HC4.out.quiet (Mod.refl _ _).drew) (by kernel_rfl) ?_
  case lb5 => (intro e he hk; simp only [List.mem_cons, List.not_mem_nil, or_false] at he; rcases he with rfl <;> (first | exact absurd rfl hk | exact congrArg Value.string (rfl)))
  case len5 => (first | (simp [takeCode, giveCode, joinCode, awayCode, eachCode, turnGo, waitGo, turnCode] <;> omega) | (simp <;> omega))
  intro U x5 C hU
  have u50 : U 50 = _ := hU 0 _ rfl
  simp only [spTmps, SpI.tmps, List.flatMap_cons, List.flatMap_nil, Option.map_some, Option.map_none, Option.toList_some, Option.toList_none, List.cons_append, List.nil_append, List.append_nil, patch, List.foldl_cons, List.foldl_nil, Act.put, List.setIfInBounds_toArray, List.set_cons_zero, List.set_cons_succ, u50]
  clear u50 hU hHeld
  simp only [List.map_cons, List.map_nil, EmC.ins, List.getD_cons_zero, List.getD_cons_succ, List.getD_nil] at C
  have HC5 := Lib.hid C
  clear C
  have h0 := (HC5.out.mk HM.out).c0
  have h1 := (HC5.out.mk HM.out).c1
  have h2 := (HC5.out.mk HM.out).c2
  have h3 := (HC5.out.mk HM.out).c3
  have hm := (HKm.out.next Hv.out HC5.out).cell
  have hp := (HKp.out.next Hv.out HC5.out).cell
  go_wp2_with fail
  clear h0 h1 h2 h3 hm hp
  have hg := ggive_chain HC5.out (HC5.out.mk HM.out) (by simp [takeCode, giveCode, joinCode, awayCode, eachCode, turnGo, waitGo, turnCode] <;> omega) Hn.out hs
  refine hg.mono ?_
  rintro e x6 ⟨rfl, C⟩
  have HC6 := Lib.hid C
  clear C hg
  have h0 := (HC6.out.mk HM.out).c0
  have h1 := (HC6.out.mk HM.out).c1
  have h2 := (HC6.out.mk HM.out).c2
  have h3 := (HC6.out.mk HM.out).c3
  have hm := (HKm.out.next Hv.out HC6.out).cell
  have hp := (HKp.out.next Hv.out HC6.out).cell
  obtain ⟨v, ec, hv⟩ := HC6.out.made (w := w) (by simp [Value.ownBlock]) Hm.out hb
  have Hv := Lib.hid hv
  clear hv
  go_wp2
  go_ret2
  exact ⟨v, rfl, by rw [← gwait4_eq]; simpa [List.append_assoc] using Hv.out⟩
end Go.Proofs.YtamfbfajlfbooaaDoor
