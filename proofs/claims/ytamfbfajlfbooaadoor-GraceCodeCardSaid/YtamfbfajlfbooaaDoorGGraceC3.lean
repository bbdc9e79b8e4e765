/- package grace, flavour 3: its code, made. -/
import Derived.Test.YtamfbfajlfbooaaDoorGGraceL
import Derived.Test.YtamfbfajlfbooaaDoorGGraceF
set_option linter.unusedVariables false
set_option linter.unusedSimpArgs false
set_option linter.unusedSectionVars false
namespace Go.Proofs.YtamfbfajlfbooaaDoor
open Go.RowKit Qs Qh
variable {w0 w w1 : World} {b o : Nat} {v0 : Value} {l : List Instr} {br s : ByteArray} {fe jo co : Bool} {u : Value} {c : Nat}
set_option maxRecDepth 4000 in
set_option maxHeartbeats 8000000 in
theorem genter3_ok (s : ByteArray) (w : World) (hn : nameB s.data.toList = true) (hs : s.size ≤ 4) :
    Calls Tryd.prog 120 #[.int .i64 3, .string s] w fun e w' => ∃ v, e = .returned (.tuple #[v, .nilIface]) ∧ Made (preC s.data.toList gc30) w v w' := by
  have Hn := Lib.hid hn
  clear hn
  go_enter Tryd.func120, Tryd.ntmps120
  go_wp2_with fail
  refine (begin3_ok s w Hn.out hs).mono ?_
  rintro e x0 ⟨b, rfl, hm, hb, E, M⟩
  have h3 := M.c3
  have Hm := Lib.hid hm
  clear hm hb E M
  go_wp2
  go_ret2
  exact ⟨_, rfl, InsRow.nil _ _, Hm.out.toBelow, by simp [Value.ownBlock]⟩
set_option maxRecDepth 4000 in
set_option maxHeartbeats 8000000 in
theorem gleave3_ok (s : ByteArray) (w : World) (hn : nameB s.data.toList = true) (hs : s.size ≤ 4) :
    Calls Tryd.prog 121 #[.int .i64 3, .string s] w fun e w' => ∃ v, e = .returned (.tuple #[v, .nilIface]) ∧ Made (preC s.data.toList gc31) w v w' := by
  have Hn := Lib.hid hn
  clear hn
  go_enter Tryd.func121, Tryd.ntmps121
  go_wp2_with fail
  refine (begin3_ok s w Hn.out hs).mono ?_
  rintro e x0 ⟨b, rfl, hm, hb, E, M⟩
  have h3 := M.c3
  have Hm := Lib.hid hm
  clear hm hb E M
  go_wp2
  go_ret2
  exact ⟨_, rfl, InsRow.nil _ _, Hm.out.toBelow, by simp [Value.ownBlock]⟩
set_option maxRecDepth 4000 in
set_option maxHeartbeats 8000000 in
theorem grest3_ok (s : ByteArray) (w : World) (hn : nameB s.data.toList = true) (hs : s.size ≤ 4) :
    Calls Tryd.prog 122 #[.int .i64 3, .string s] w fun e w' => ∃ v, e = .returned (.tuple #[v, .nilIface]) ∧ Made (preC s.data.toList gc32) w v w' := by
  have Hn := Lib.hid hn
  clear hn
  go_enter Tryd.func122, Tryd.ntmps122
  go_wp2_with fail
  refine (begin3_ok s w Hn.out hs).mono ?_
  rintro e x0 ⟨b, rfl, hm, hb, E, M⟩
  have HC := Lib.hid (Chain.start E)
  have HM := Lib.hid M
  have Hm := Lib.hid hm
  clear hm E M
  have h0 := (HC.out.mk HM.out).c0
  have h1 := (HC.out.mk HM.out).c1
  have h2 := (HC.out.mk HM.out).c2
  have h3 := (HC.out.mk HM.out).c3
  go_wp2_with fail
  refine (op3_chain (HC.out.quiet ((Mod.refl _ _).alloc _)) (by first | omega | simp) 6 _ rfl x0.heap.size 0 7 0 3 (by simp) (by simp) (by simp) (by simp)).mono ?_
  clear h0 h1 h2 h3
  rintro e x1 ⟨rfl, C⟩
  have HC1 := Lib.hid C
  clear C
  have h0 := (HC1.out.mk HM.out).c0
  have h1 := (HC1.out.mk HM.out).c1
  have h2 := (HC1.out.mk HM.out).c2
  have h3 := (HC1.out.mk HM.out).c3
  go_wp2_with fail
  refine (op3_chain (HC1.out.quiet ((Mod.refl _ _).alloc _)) (by simp [takeCode, giveCode, joinCode, awayCode, eachCode, turnGo, waitGo, turnCode] <;> omega) 7 _ rfl x1.heap.size 6 0 0 3 (by simp) (by simp) (by simp) (by simp)).mono ?_
  clear h0 h1 h2 h3
  rintro e x2 ⟨rfl, C⟩
  have HC2 := Lib.hid C
  clear C
  have h0 := (HC2.out.mk HM.out).c0
  have h1 := (HC2.out.mk HM.out).c1
  have h2 := (HC2.out.mk HM.out).c2
  have h3 := (HC2.out.mk HM.out).c3
  go_wp2_with fail
  refine (op0_chain HC2.out (by simp [takeCode, giveCode, joinCode, awayCode, eachCode, turnGo, waitGo, turnCode] <;> omega) 12 _ rfl).mono ?_
  clear h0 h1 h2 h3
  rintro e x3 ⟨rfl, C⟩
  have HC3 := Lib.hid C
  clear C
  obtain ⟨v, ec, hv⟩ := HC3.out.made (w := w) (by simp [Value.ownBlock]) Hm.out hb
  have Hv := Lib.hid hv
  clear hv
  go_wp2
  go_ret2
  exact ⟨v, rfl, by rw [← grest3_eq]; simpa [List.append_assoc] using Hv.out⟩
set_option maxRecDepth 4000 in
set_option maxHeartbeats 8000000 in
theorem ggone3_ok (s : ByteArray) (w : World) (hn : nameB s.data.toList = true) (hs : s.size ≤ 4) :
    Calls Tryd.prog 123 #[.int .i64 3, .string s] w fun e w' => ∃ v, e = .returned (.tuple #[v, .nilIface]) ∧ Made (preC s.data.toList gc33) w v w' := by
  have Hn := Lib.hid hn
  clear hn
  go_enter Tryd.func123, Tryd.ntmps123
  go_wp2_with fail
  refine (begin3_ok s w Hn.out hs).mono ?_
  rintro e x0 ⟨b, rfl, hm, hb, E, M⟩
  have HC := Lib.hid (Chain.start E)
  have HM := Lib.hid M
  have Hm := Lib.hid hm
  clear hm E M
  have h0 := (HC.out.mk HM.out).c0
  have h1 := (HC.out.mk HM.out).c1
  have h2 := (HC.out.mk HM.out).c2
  have h3 := (HC.out.mk HM.out).c3
  go_wp2_with fail
  clear h0 h1 h2 h3
  have hg := gaway_chain HC.out (by first | omega | simp)
  refine hg.mono ?_
  rintro e x1 ⟨rfl, C⟩
  have HC1 := Lib.hid C
  clear C hg
  obtain ⟨v, ec, hv⟩ := HC1.out.made (w := w) (by simp [Value.ownBlock]) Hm.out hb
  have Hv := Lib.hid hv
  clear hv
  go_wp2
  go_ret2
  exact ⟨v, rfl, by rw [← ggone3_eq]; simpa [List.append_assoc] using Hv.out⟩
set_option maxRecDepth 4000 in
set_option maxHeartbeats 8000000 in
theorem gwait3_ok (s : ByteArray) (w : World) (hn : nameB s.data.toList = true) (hs : s.size ≤ 4) :
    Calls Tryd.prog 97 #[.int .i64 3, .string s] w fun e w' => ∃ v, e = .returned (.tuple #[v, .nilIface]) ∧ Made (preC s.data.toList gc34) w v w' := by
  have Hn := Lib.hid hn
  clear hn
  go_enter Tryd.func97, Tryd.ntmps97
  go_wp2_with fail
  refine (begin3_ok s _ Hn.out hs).mono ?_
  rintro e w1 ⟨b, rfl, hm, hb0, E, M⟩
  have hsw := hm.size
  have hlb := E.lt
  have hb1 : w.heap.size < b := by simp at hb0; omega
  have hp0 : w1.cell? ⟨w.heap.size, 0, none⟩ = some (.string s) := hm.cell (by simp) (fun e => e)
  have hq : Mod noF w1 (w1.alloc (.cells #[.pointer (some ⟨b, 0, none⟩)] 216)) := (Mod.refl _ _).alloc _
  have E1 := E.quiet hq
  have HC := Lib.hid (Chain.start E1)
  have HM := Lib.hid (M.quiet hq)
  have Hm := Lib.hid ((((Mod.refl noF w).alloc _).trans0 hm).trans0 hq)
  have Hv := Lib.hid E1.cell
  have hcp : w.heap.size < w1.heap.size := by simp at hsw; omega
  have hrow : ∀ (c : Nat) v, (w1.alloc (.cells #[.pointer (some ⟨b, 0, none⟩)] 216)).cell? ⟨b, 4, none⟩ = some v → v.ownBlock ≠ some c := fun c v h e => by
    rw [E1.cell] at h; cases h; cases e
  have HKm := Lib.hid (⟨by simp, by simp, by omega, hrow _⟩ : Cap (w1.alloc (.cells #[.pointer (some ⟨b, 0, none⟩)] 216)) b w1.heap.size (.pointer (some ⟨b, 0, none⟩)))
  have HKp := Lib.hid (⟨hq.cell hp0 (fun e => e), by simp; omega, by omega, hrow _⟩ : Cap (w1.alloc (.cells #[.pointer (some ⟨b, 0, none⟩)] 216)) b w.heap.size (.string s))
  have hb : w.heap.size ≤ b := by omega
  clear hm E M E1 hq hp0 hrow hsw hb0 hb1
  have h0 := (HC.out.mk HM.out).c0
  have h1 := (HC.out.mk HM.out).c1
  have h2 := (HC.out.mk HM.out).c2
  have h3 := (HC.out.mk HM.out).c3
  have hm := (HKm.out.next Hv.out HC.out).cell
  have hp := (HKp.out.next Hv.out HC.out).cell
  go_wp2_with fail
  clear h0 h1 h2 h3 hm hp
  have hg := gaway_chain HC.out (by first | omega | simp)
  refine hg.mono ?_
  rintro e x1 ⟨rfl, C⟩
  have HC1 := Lib.hid C
  clear C hg
  have h0 := (HC1.out.mk HM.out).c0
  have h1 := (HC1.out.mk HM.out).c1
  have h2 := (HC1.out.mk HM.out).c2
  have h3 := (HC1.out.mk HM.out).c3
  have hm := (HKm.out.next Hv.out HC1.out).cell
  have hp := (HKp.out.next Hv.out HC1.out).cell
  go_wp2_with fail
  clear h0 h1 h2 h3 hm hp
  have hg := gtake_chain HC1.out (HC1.out.mk HM.out) (by simp [takeCode, giveCode, joinCode, awayCode, eachCode, turnGo, waitGo, turnCode] <;> omega) Hn.out hs
  refine hg.mono ?_
  rintro e x2 ⟨rfl, C⟩
  have HC2 := Lib.hid C
  clear C hg
  have h0 := (HC2.out.mk HM.out).c0
  have h1 := (HC2.out.mk HM.out).c1
  have h2 := (HC2.out.mk HM.out).c2
  have h3 := (HC2.out.mk HM.out).c3
  have hm := (HKm.out.next Hv.out HC2.out).cell
  have hp := (HKp.out.next Hv.out HC2.out).cell
  go_wp2_with fail
  refine (op3_chain (HC2.out.quiet ((Mod.refl _ _).alloc _)) (by simp [takeCode, giveCode, joinCode, awayCode, eachCode, turnGo, waitGo, turnCode] <;> omega) 6 _ rfl x2.heap.size 0 7 0 3 (by simp) (by simp) (by simp) (by simp)).mono ?_
  clear h0 h1 h2 h3 hm hp
  rintro e x3 ⟨rfl, C⟩
  have HC3 := Lib.hid C
  clear C
  have h0 := (HC3.out.mk HM.out).c0
  have h1 := (HC3.out.mk HM.out).c1
  have h2 := (HC3.out.mk HM.out).c2
  have h3 := (HC3.out.mk HM.out).c3
  have hm := (HKm.out.next Hv.out HC3.out).cell
  have hp := (HKp.out.next Hv.out HC3.out).cell
  go_wp2_with fail
  refine (op2_chain (HC3.out.quiet ((Mod.refl _ _).alloc _)) (by simp [takeCode, giveCode, joinCode, awayCode, eachCode, turnGo, waitGo, turnCode] <;> omega) 0 _ rfl x3.heap.size 1 2 2 (by simp) (by simp) (by simp)).mono ?_
  clear h0 h1 h2 h3 hm hp
  rintro e x4 ⟨rfl, C⟩
  have HC4 := Lib.hid C
  clear C
  have h0 := (HC4.out.mk HM.out).c0
  have h1 := (HC4.out.mk HM.out).c1
  have h2 := (HC4.out.mk HM.out).c2
  have h3 := (HC4.out.mk HM.out).c3
  have hm := (HKm.out.next Hv.out HC4.out).cell
  have hp := (HKp.out.next Hv.out HC4.out).cell
  go_wp2_with fail
  refine (op3_chain (HC4.out.quiet ((Mod.refl _ _).alloc _)) (by simp [takeCode, giveCode, joinCode, awayCode, eachCode, turnGo, waitGo, turnCode] <;> omega) 2 _ rfl x4.heap.size 0 0 1 3 (by simp) (by simp) (by simp) (by simp)).mono ?_
  clear h0 h1 h2 h3 hm hp
  rintro e x5 ⟨rfl, C⟩
  have HC5 := Lib.hid C
  clear C
  have h0 := (HC5.out.mk HM.out).c0
  have h1 := (HC5.out.mk HM.out).c1
  have h2 := (HC5.out.mk HM.out).c2
  have h3 := (HC5.out.mk HM.out).c3
  have hm := (HKm.out.next Hv.out HC5.out).cell
  have hp := (HKp.out.next Hv.out HC5.out).cell
  go_wp2_with fail
  refine (op3_chain (HC5.out.quiet ((Mod.refl _ _).alloc _)) (by simp [takeCode, giveCode, joinCode, awayCode, eachCode, turnGo, waitGo, turnCode] <;> omega) 7 _ rfl x5.heap.size 7 0 0 3 (by simp) (by simp) (by simp) (by simp)).mono ?_
  clear h0 h1 h2 h3 hm hp
  rintro e x6 ⟨rfl, C⟩
  have HC6 := Lib.hid C
  clear C
  have h0 := (HC6.out.mk HM.out).c0
  have h1 := (HC6.out.mk HM.out).c1
  have h2 := (HC6.out.mk HM.out).c2
  have h3 := (HC6.out.mk HM.out).c3
  have hm := (HKm.out.next Hv.out HC6.out).cell
  have hp := (HKp.out.next Hv.out HC6.out).cell
  go_wp2_with fail
  refine (op0_chain HC6.out (by simp [takeCode, giveCode, joinCode, awayCode, eachCode, turnGo, waitGo, turnCode] <;> omega) 12 _ rfl).mono ?_
  clear h0 h1 h2 h3 hm hp
  rintro e x7 ⟨rfl, C⟩
  have HC7 := Lib.hid C
  clear C
  have h0 := (HC7.out.mk HM.out).c0
  have h1 := (HC7.out.mk HM.out).c1
  have h2 := (HC7.out.mk HM.out).c2
  have h3 := (HC7.out.mk HM.out).c3
  have hm := (HKm.out.next Hv.out HC7.out).cell
  have hp := (HKp.out.next Hv.out HC7.out).cell
  go_wp2_with fail
  clear h0 h1 h2 h3 hm hp
  have hg := eachWait_chain (s ++ ⟨#[46, 120]⟩) (size_plus2 s _ _ hs) HC7.out (HKm.out.next Hv.out HC7.out) (HKp.out.next Hv.out HC7.out) (by omega) (by simp [takeCode, giveCode, joinCode, awayCode, eachCode, turnGo, waitGo, turnCode] <;> omega)
  refine hg.mono ?_
  rintro e x8 ⟨rfl, C⟩
  have HC8 := Lib.hid C
  clear C hg
  have h0 := (HC8.out.mk HM.out).c0
  have h1 := (HC8.out.mk HM.out).c1
  have h2 := (HC8.out.mk HM.out).c2
  have h3 := (HC8.out.mk HM.out).c3
  have hm := (HKm.out.next Hv.out HC8.out).cell
  have hp := (HKp.out.next Hv.out HC8.out).cell
  go_wp2_with fail
  clear h0 h1 h2 h3 hm hp
  have hg := ggive_chain HC8.out (HC8.out.mk HM.out) (by simp [takeCode, giveCode, joinCode, awayCode, eachCode, turnGo, waitGo, turnCode] <;> omega) Hn.out hs
  refine hg.mono ?_
  rintro e x9 ⟨rfl, C⟩
  have HC9 := Lib.hid C
  clear C hg
  have h0 := (HC9.out.mk HM.out).c0
  have h1 := (HC9.out.mk HM.out).c1
  have h2 := (HC9.out.mk HM.out).c2
  have h3 := (HC9.out.mk HM.out).c3
  have hm := (HKm.out.next Hv.out HC9.out).cell
  have hp := (HKp.out.next Hv.out HC9.out).cell
  go_wp2_with fail
  refine (op3_chain (HC9.out.quiet ((Mod.refl _ _).alloc _)) (by simp [takeCode, giveCode, joinCode, awayCode, eachCode, turnGo, waitGo, turnCode] <;> omega) 6 _ rfl x9.heap.size 0 7 0 3 (by simp) (by simp) (by simp) (by simp)).mono ?_
  clear h0 h1 h2 h3 hm hp
  rintro e x10 ⟨rfl, C⟩
  have HC10 := Lib.hid C
  clear C
  have h0 := (HC10.out.mk HM.out).c0
  have h1 := (HC10.out.mk HM.out).c1
  have h2 := (HC10.out.mk HM.out).c2
  have h3 := (HC10.out.mk HM.out).c3
  have hm := (HKm.out.next Hv.out HC10.out).cell
  have hp := (HKp.out.next Hv.out HC10.out).cell
  go_wp2_with fail
  refine (op3_chain (HC10.out.quiet ((Mod.refl _ _).alloc _)) (by simp [takeCode, giveCode, joinCode, awayCode, eachCode, turnGo, waitGo, turnCode] <;> omega) 7 _ rfl x10.heap.size 6 0 0 3 (by simp) (by simp) (by simp) (by simp)).mono ?_
  clear h0 h1 h2 h3 hm hp
  rintro e x11 ⟨rfl, C⟩
  have HC11 := Lib.hid C
  clear C
  have h0 := (HC11.out.mk HM.out).c0
  have h1 := (HC11.out.mk HM.out).c1
  have h2 := (HC11.out.mk HM.out).c2
  have h3 := (HC11.out.mk HM.out).c3
  have hm := (HKm.out.next Hv.out HC11.out).cell
  have hp := (HKp.out.next Hv.out HC11.out).cell
  go_wp2_with fail
  refine (op0_chain HC11.out (by simp [takeCode, giveCode, joinCode, awayCode, eachCode, turnGo, waitGo, turnCode] <;> omega) 12 _ rfl).mono ?_
  clear h0 h1 h2 h3 hm hp
  rintro e x12 ⟨rfl, C⟩
  have HC12 := Lib.hid C
  clear C
  have h0 := (HC12.out.mk HM.out).c0
  have h1 := (HC12.out.mk HM.out).c1
  have h2 := (HC12.out.mk HM.out).c2
  have h3 := (HC12.out.mk HM.out).c3
  have hm := (HKm.out.next Hv.out HC12.out).cell
  have hp := (HKp.out.next Hv.out HC12.out).cell
  obtain ⟨v, ec, hv⟩ := HC12.out.made (w := w) (by simp [Value.ownBlock]) Hm.out hb
  have Hv := Lib.hid hv
  clear hv
  go_wp2
  go_ret2
  exact ⟨v, rfl, by rw [← gwait3_eq]; simpa [List.append_assoc] using Hv.out⟩
end Go.Proofs.YtamfbfajlfbooaaDoor
