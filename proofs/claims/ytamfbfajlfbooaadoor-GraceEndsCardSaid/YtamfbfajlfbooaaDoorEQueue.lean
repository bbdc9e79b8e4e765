/- queue.Put, queue.Take: their code; (*emit.Code).More. -/
import Derived.Test.YtamfbfajlfbooaaDoorEm4
import Derived.Test.YtamfbfajlfbooaaDoorEm3
import Derived.Outline
set_option linter.unusedVariables false
set_option linter.unusedSimpArgs false
set_option linter.unusedSectionVars false
namespace Go.Proofs.YtamfbfajlfbooaaDoor
open Go.RowKit Qs Qh
theorem frozen_keep {F : Nat → Prop} {w w' : World} {b o : Nat} (hM : Mod F w w') (hb : b < w.heap.size) (hF : ¬ F b) (h : w.frozen? ⟨b, o, none⟩ = false) : w'.frozen? ⟨b, o, none⟩ = false := by
  unfold World.frozen? at h ⊢
  rw [hM.block b hb hF]; exact h
set_option maxHeartbeats 2000000 in
theorem more_any (w : World) (b o : Nat) (v : Value) (l : List Instr) (E : Emit insT w b o v l) (hlen : l.length ≤ 1000000) (x : List Instr) (g c : Nat) (hsrc : ∀ j u, (flat insV 0 x)[j]? = some u → w.cell? ((⟨g, 0, none⟩ : Addr).add j) = some u) (hx : x.length ≤ 1000) :
    Calls Tryd.prog 110 #[.pointer (some ⟨b, o, none⟩), .slice (some ⟨g, 0, none⟩) x.length c] w (Emitted w b o v (l ++ x)) := by
  have HE := Lib.hid E
  obtain ⟨ec, ef, er, en, el⟩ := E
  obtain ⟨a, cp, rfl, hcp, hlm⟩ := er.slice
  have Her := Lib.hid er
  have Hsrc := Lib.hid hsrc
  have hnb' : ¬ ((Value.slice a l.length cp).ownBlock = some b) := fun h => en b h rfl
  have Hnb := Lib.hid hnb'
  have Hef := Lib.hid ef
  clear er en hnb' hsrc
  obtain ⟨i0, hi, hz0, hz1, hz2⟩ := info_parts insInfo
  have hbnd : l.length + x.length ≤ maxLen := by unfold maxLen; omega
  have hbnd2 : (l.length + x.length) * 56 ≤ 140737488355328 := by omega
  go_enter Tryd.func110, Tryd.ntmps110
  go_wp2_with (at_builtin; refine wpList_append_mine _ rfl (.tmp 9) (.tmp 10) 28 rfl 124 i0 (.agg #[.string ⟨#[]⟩, .int .i64 0, .int .i64 0, .int .i64 0, .string ⟨#[]⟩]) 5 56 Tryd.underlying28 hi hz0 hz1 hz2 rfl (by decide) _ _ (flat insV 0 l) rfl Her.out ⟨g, 0, none⟩ x.length c (flat insV 0 x) rfl (insV_len x 0) Hsrc.out (insV_one _ _) hbnd hbnd2 ?_; intro v2 w2 hown2 hgr2 hfr2 hz2'; have hm2 : Mod (fun k => (Value.slice a l.length cp).ownBlock = some k) w w2 := (Mod.refl _ w).grown hgr2 (fun k hk _ => hk); have ec2 := hm2.cell ec Hnb.out; have ef2 := frozen_keep hm2 el Hnb.out Hef.out; have el2 : b < w2.heap.size := Nat.lt_of_lt_of_le el hm2.size; obtain ⟨xa, xb, xc, rfl⟩ := slice_of_own hown2; have Hap := Lib.hid (HE.out.append hm2 (x := x) hown2 (Nat.le_refl _) hfr2); clear hown2 hgr2 hfr2 hz2' hm2)
  go_ret
  exact ⟨rfl, _, Hap.out⟩
variable {w0 w : World} {b o : Nat} {v0 : Value} {l : List Instr}
theorem more_chain (C : Chain w0 b o v0 l w) (hlen : l.length ≤ 1000000) (x : List Instr) (g c : Nat) (hsrc : ∀ j u, (flat insV 0 x)[j]? = some u → w.cell? ((⟨g, 0, none⟩ : Addr).add j) = some u) (hx : x.length ≤ 1000) :
    Calls Tryd.prog 110 #[.pointer (some ⟨b, o, none⟩), .slice (some ⟨g, 0, none⟩) x.length c] w fun e w' => e = .returned (.pointer (some ⟨b, o, none⟩)) ∧ Chain w0 b o v0 (l ++ x) w' := by
  obtain ⟨hb, v, E, G⟩ := C
  exact (more_any w b o v l E hlen x g c hsrc hx).mono fun e w' h => Chain.next hb G h
theorem Chain.old (C : Chain w0 b o v0 l w) (hv0 : v0.ownBlock = none) {p : Addr} (hne : p.block ≠ b) {u : Value} (h : w0.cell? p = some u) : w.cell? p = some u := by
  obtain ⟨hb, v, E, G⟩ := C
  exact G.mod.cell h (fun e => e.elim hne (fun e => by rw [hv0] at e; cases e))
end Go.Proofs.YtamfbfajlfbooaaDoor
