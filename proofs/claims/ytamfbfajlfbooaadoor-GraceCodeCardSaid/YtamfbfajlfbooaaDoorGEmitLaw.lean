/- Code that is made piece by piece, in memory: a variable that holds a slice of instructions. -/
import Derived.Test.YtamfbfajlfbooaaDoorGm2
set_option linter.unusedVariables false
set_option linter.unusedSimpArgs false
set_option linter.unusedSectionVars false
namespace Qh
open Go Go.RowKit Qs
def insV (_ : Nat) (x : Instr) : List Value := instrVals x
theorem insV_start (l : List Instr) : ∀ s s', flat insV s l = flat insV s' l := by
  induction l with
  | nil => intro s s'; rfl
  | cons x l ih => intro s s'; simp only [flat, insV]; rw [ih (s + 1) (s' + 1)]
theorem insV_append (a : List Instr) : ∀ (s : Nat) (b : List Instr), flat insV s (a ++ b) = flat insV s a ++ flat insV 0 b := by
  induction a with
  | nil => intro s b; rw [List.nil_append]; exact insV_start b s 0
  | cons x a ih => intro s b; simp only [List.cons_append, flat, ih, List.append_assoc]
theorem insV_one : ∀ (l : List Instr) (s : Nat), ∀ u ∈ flat insV s l, u.oneCell' = true
  | [], _, _, h => by simp [flat] at h
  | x :: l, s, u, h => by
    simp only [flat, insV, List.mem_append] at h
    rcases h with h | h
    · simp [instrVals, iv, sv] at h; rcases h with rfl | rfl | rfl | rfl | rfl <;> rfl
    · exact insV_one l (s + 1) u h
theorem insV_len (l : List Instr) (s : Nat) : (flat insV s l).length = l.length * 5 := flat_length insV 5 (fun _ _ => rfl) l s
/-- A slice of instructions that its maker owns. -/
def InsRow (T : TypeId) (w : World) (v : Value) (l : List Instr) : Prop := w.ownsRow 0 T 5 v l.length (flat insV 0 l)
theorem InsRow.slice {T : TypeId} {w : World} {v : Value} {l : List Instr} (h : InsRow T w v l) : ∃ a c, v = .slice a l.length c ∧ c ≤ maxLen ∧ l.length ≤ maxLen := by
  rcases h.2 with ⟨rfl, h0⟩ | ⟨g, cap, cur, rfl, _, _, h1, h2, _⟩
  · rw [h0]; exact ⟨none, 0, rfl, Nat.zero_le _, Nat.zero_le _⟩
  · exact ⟨_, _, rfl, h2, Nat.le_trans h1 h2⟩
theorem InsRow.code {T : TypeId} {w : World} {v : Value} {l : List Instr} (h : InsRow T w v l) : CodeAt w v l := by
  rcases h.2 with ⟨rfl, h0⟩ | ⟨g, cap, cur, rfl, _, hg, h1, h2, h3, h4⟩
  · refine ⟨none, 0, by rw [h0], Nat.zero_le _, fun i x hx => ?_⟩
    have := (List.getElem?_eq_some_iff.1 hx).1; omega
  · refine ⟨_, _, rfl, h2, fun i x hx => ⟨g, 0, rfl, lt_of_block hg, fun j y hy => ?_⟩⟩
    have hlt : j < 5 := (List.getElem?_eq_some_iff.1 hy).1
    have hgt := flat_get insV 5 (fun _ _ => rfl) hlt l 0 i x hx []
    rw [List.append_nil] at hgt
    rw [cell_of_heap hg, Nat.zero_add]
    have hi : i < l.length := (List.getElem?_eq_some_iff.1 hx).1
    have e : cur[i * 5 + j]? = (cur.toList.take (l.length * 5))[i * 5 + j]? := by
      rw [List.getElem?_take, if_pos (by omega)]; simp
    rw [e, h4, hgt]; exact hy
theorem InsRow.nil (T : TypeId) (w : World) : InsRow T w (.slice none 0 0) [] := World.ownsRow_nil w 0 T 5
theorem InsRow.keep {T : TypeId} {w w' : World} {F : Nat → Prop} {v : Value} {l : List Instr} (h : InsRow T w v l) (hM : Mod F w w') (hF : ∀ g, v.ownBlock = some g → ¬ F g) : InsRow T w' v l := by
  refine ⟨h.1, ?_⟩
  rcases h.2 with e | ⟨g, cap, cur, rfl, h0, hg, r⟩
  · exact .inl e
  · exact .inr ⟨g, cap, cur, rfl, h0, hM.heap hg (hF g rfl), r⟩
theorem InsRow.lt {T : TypeId} {w : World} {v : Value} {l : List Instr} (h : InsRow T w v l) {g : Nat} (hg : v.ownBlock = some g) : g < w.heap.size := (World.ownsRow.lt h g hg).2
/-- The variable at ⟨b, o⟩ holds the code so far. -/
structure Emit (T : TypeId) (w : World) (b o : Nat) (v : Value) (l : List Instr) : Prop where
  cell : w.cell? ⟨b, o, none⟩ = some v
  free : w.frozen? ⟨b, o, none⟩ = false
  row : InsRow T w v l
  ne : ∀ g, v.ownBlock = some g → g ≠ b
  lt : b < w.heap.size
/-- What has turned: that variable, and its row, or a new one. -/
structure Grew (w w' : World) (b o : Nat) (v v' : Value) : Prop where
  mod : Mod (fun k => k = b ∨ v.ownBlock = some k) w w'
  cells : ∀ j u, j ≠ o → w.cell? ⟨b, j, none⟩ = some u → w'.cell? ⟨b, j, none⟩ = some u
  free : ∀ j, w.frozen? ⟨b, j, none⟩ = false → w'.frozen? ⟨b, j, none⟩ = false
  new : ∀ g, v'.ownBlock = some g → v.ownBlock = some g ∨ w.heap.size ≤ g
theorem Grew.trans {w1 w2 w3 : World} {b o : Nat} {v1 v2 v3 : Value} (hb : b < w1.heap.size) (h : Grew w1 w2 b o v1 v2) (k : Grew w2 w3 b o v2 v3) : Grew w1 w3 b o v1 v3 := by
  refine ⟨h.mod.trans k.mod fun x hx hf => ?_, fun j u hj hc => k.cells j u hj (h.cells j u hj hc), fun j hj => k.free j (h.free j hj), fun g hg => ?_⟩
  · rcases hf with e | e
    · exact .inl e
    · rcases h.new x e with e' | e'
      · exact .inr e'
      · omega
  · rcases k.new g hg with e | e
    · exact h.new g e
    · have := h.mod.size; exact .inr (by omega)
/-- All that turned lies at or above a bound that the variable and its row lie above. -/
theorem Grew.below {w w' : World} {b o : Nat} {v v' : Value} (h : Grew w w' b o v v') {B : Nat} (hB : B ≤ w.heap.size) (hb : B ≤ b) (hv : ∀ g, v.ownBlock = some g → B ≤ g) : Below B w w' ∧ ∀ g, v'.ownBlock = some g → B ≤ g :=
  ⟨h.mod.under hB fun k hk => hk.elim (fun e => by omega) (fun e => hv k e), fun g hg => (h.new g hg).elim (fun e => hv g e) (fun e => by omega)⟩
/-- An append, and the store behind it. -/
theorem Emit.append {T : TypeId} {w w2 : World} {b o : Nat} {v v1 : Value} {l : List Instr} (E : Emit T w b o v l) (hm2 : Mod (fun k => v.ownBlock = some k) w w2) {x : List Instr}
    (hown2 : w2.ownsRow 0 T 5 v1 (l.length + x.length) (flat insV 0 l ++ flat insV 0 x)) {B : Nat} (hB : w.heap.size ≤ B) (hfr2 : ∀ g, v1.ownBlock = some g → v.ownBlock = some g ∨ B ≤ g) :
    Emit T (w2.setCell ⟨b, o, none⟩ v1) b o v1 (l ++ x) ∧ Grew w (w2.setCell ⟨b, o, none⟩ v1) b o v v1 := by
  have hnb : ¬ (v.ownBlock = some b) := fun h => E.ne b h rfl
  have hblk := hm2.block b E.lt hnb
  have hne : ∀ g, v1.ownBlock = some g → g ≠ b := fun g hg e => by
    subst e
    rcases hfr2 g hg with h | h
    · exact hnb h
    · have := E.lt; omega
  have hc2 : w2.cell? ⟨b, o, none⟩ = some v := (World.cell?_of_block hblk).trans E.cell
  have hf2 : w2.frozen? ⟨b, o, none⟩ = false := (World.frozen?_of_block hblk).trans E.free
  have hM : Mod (fun k => k = b) w2 (w2.setCell ⟨b, o, none⟩ v1) := (Mod.refl (fun k => k = b) w2).setCell (fun _ => rfl) v1
  refine ⟨⟨?_, ?_, ?_, hne, Nat.lt_of_lt_of_le E.lt (Nat.le_trans hm2.size hM.size)⟩, ⟨?_, ?_, ?_, ?_⟩⟩
  · exact World.cell?_setCell_same w2 _ v1 hc2
  · rw [World.frozen?_setCell]; exact hf2
  · have : InsRow T w2 v1 (l ++ x) := by
      unfold InsRow; rw [List.length_append, insV_append]; exact hown2
    exact this.keep hM fun g hg e => hne g hg e
  · exact (hm2.mono fun k _ h => .inr h).trans hM fun k _ e => .inl e
  · intro j u hj hu
    have : w2.cell? ⟨b, j, none⟩ = some u := (World.cell?_of_block hblk).trans hu
    rw [World.cell?_setCell_other _ _ _ _ (fun e => hj (congrArg Addr.off e).symm)]; exact this
  · intro j hj
    rw [World.frozen?_setCell]
    exact (World.frozen?_of_block hblk).trans hj
  · intro g hg
    exact (hfr2 g hg).elim .inl fun h => .inr (by omega)
theorem ins_one (s : ByteArray) (a b c : Int) (t : ByteArray) : ∀ u ∈ [Value.string s, .int .i64 a, .int .i64 b, .int .i64 c, .string t], u.oneCell' = true := by
  intro u hu
  simp at hu
  rcases hu with rfl | rfl | rfl | rfl | rfl <;> rfl
theorem new_cells_at (w : World) (l : List Value) (T : TypeId) {g : Nat} (hg : w.heap.size = g) : ∀ j u, l[j]? = some u → (w.alloc (.cells l.toArray T)).cell? ((⟨g, 0, none⟩ : Addr).add j) = some u := by
  subst hg; exact new_cells w l T
theorem size1 (w : World) (a : Obj) : (w.alloc a).heap.size = w.heap.size + 1 := by simp
theorem size2 (w : World) (a b : Obj) : ((w.alloc a).alloc b).heap.size = w.heap.size + 1 + 1 := by simp
/-- An append's work, over blocks of the call's own. -/
theorem appended {w w1 w2 : World} {r : Option Nat} (hg : w1.grownBy w2 r) (h : Mod noF w w1) : Mod (fun k => r = some k) w w2 :=
  h.any.grown hg fun k hk _ => hk
end Qh
