/- One block of the machine written anew; a copy, told by what it turns. -/
import Derived.Test.YtamfbfajlfbooaaDoorRm2
import Derived.Laws.CopyRow
import Derived.Laws.CopyOwn
import Derived.Deep.RegionLaw
set_option linter.unusedVariables false
set_option linter.unusedSimpArgs false
set_option linter.unusedSectionVars false
namespace Qh
open Go Go.RowKit Qs
variable {τ : Ty} {K : Nat → Bool} {w w' : World} {L : Lay} {m m' : M}
theorem Rep.put (R : Rep τ K w L m) {a i : Nat} {cs cs' : List Value} {T : TypeId} (hK : K a = true) (ho : obj τ L m a i = some (cs, T)) (ho' : obj τ L m' a i = some (cs', T))
    (hoth : ∀ b k, ¬ (b = a ∧ k = i) → obj τ L m' b k = obj τ L m b k) (hM : Mod (fun x => x = L.blk a i) w w') (hh : w'.heap[L.blk a i]? = some (.cells cs'.toArray T (0, 0))) : Rep τ K w' L m' := by
  have hsome : ∀ b k, (obj τ L m' b k).isSome → (obj τ L m b k).isSome := by
    intro b k h
    by_cases e : b = a ∧ k = i
    · obtain ⟨rfl, rfl⟩ := e; rw [ho]; rfl
    · rw [← hoth b k e]; exact h
  refine ⟨fun b k cs2 T' hKb hb => ?_, fun b k b' k' h1 h2 h3 h4 h5 => R.inj b k b' k' h1 h2 (hsome _ _ h3) (hsome _ _ h4) h5⟩
  by_cases e : b = a ∧ k = i
  · obtain ⟨rfl, rfl⟩ := e
    rw [ho'] at hb
    cases hb
    exact hh
  · rw [hoth b k e] at hb
    have hne : L.blk b k ≠ L.blk a i := fun h => e (R.inj b k a i hKb hK (by rw [hb]; rfl) (by rw [ho]; rfl) h)
    exact hM.heap (R.at_ b k cs2 T' hKb hb) hne
/-- A list's head, and zeros behind. -/
def pad (k : Nat) (l : List Int) : List Int := l ++ List.replicate (k - l.length) 0
theorem pad_len {k : Nat} {l : List Int} (h : l.length ≤ k) : (pad k l).length = k := by simp [pad]; omega
theorem pad_splice {k : Nat} {l : List Int} (h : l.length ≤ k) : splice (List.replicate k (Value.int .i64 0)) 0 (l.map (Value.int .i64)) = (pad k l).map (Value.int .i64) := by
  simp [splice, pad]
theorem step_copy_mod {P : Program} {ops : Array Oper} {o : Oper} {a : Act} {w : World} {K : Act → World → Prop} {Q : Exit → Act → World → Prop} {E : Prop} (hgd : o.guard = none) (d s : Operand) (dT sT : TypeId)
    (ho : o.op = .call { callee := .builtin .copy, args := #[d, s], argTypes := #[dT, sT] }) (elem : TypeId) (hu : P.underlying dT = some (.slice elem)) (hsz : (P.info? elem).map (·.size) = some 1)
    (sp : Option Addr) (dLen dCap sLen sCap : Nat) (g off : Nat) (hd : a.eval d = .slice (some ⟨g, off, none⟩) dLen dCap) (hs : a.eval s = .slice sp sLen sCap)
    (cur : List Value) (t : TypeId) (hg : w.heap[g]? = some (.cells cur.toArray t (0, 0))) (cs : List Value) (hn : cs.length = Nat.min sLen dLen)
    (hsrc : 0 < cs.length → ∃ ad, sp = some ad ∧ ∀ j v, cs[j]? = some v → w.cell? (ad.add j) = some v)
    (hfit : off + cs.length ≤ cur.length) (h1 : ∀ v ∈ cs, v.oneCell' = true)
    (h : ∀ w', w'.heap[g]? = some (.cells (splice cur off cs).toArray t (0, 0)) → Mod (fun x => x = g) w w' → K (a.put o.dst (goInt cs.length)) w') :
    if Region.wanted o (yielded ops a.tmps) = true then Oper.wp P o a w K Q else E := by
  have hw : Region.wanted o (yielded ops a.tmps) = true := by simp [Region.wanted, hgd]
  rw [if_pos hw]
  by_cases h0 : cs.length = 0
  · obtain rfl : cs = [] := List.eq_nil_of_length_eq_zero h0
    have hrun := run_copy_none (P := P) w dT sT o.type elem (some ⟨g, off, none⟩) sp dLen dCap sLen sCap hu hsz (by simpa using hn.symm)
    unfold Oper.wp
    simp [execOp, ho, resolve, invoke, builtin, hd, hs, hrun, Result.andThen]
    exact h w (show _ = _ by simpa [splice] using hg) (Mod.refl _ _)
  · obtain ⟨ad, rfl, hsrc2⟩ := hsrc (by omega)
    have hrun := run_copy_row (P := P) w dT sT o.type elem g off dLen dCap ad sLen sCap cur.toArray t cs hu hsz hg hn hsrc2 (by simpa using hfit) h1
    unfold Oper.wp
    simp [execOp, ho, resolve, invoke, builtin, hd, hs, hrun, Result.andThen]
    refine h _ (show _ = _ by simpa [splice] using setRow_heap w g _ _ t _ hg) ⟨rfl, rfl, rfl, by simp [World.setRow], fun k hk hf => setRow_other w g k _ hf⟩
/-- Rows of integers in memory, read only. -/
def RowsAt (w : World) (v : Value) (ll : List (List Int)) : Prop :=
  ∃ a c, v = .slice a ll.length c ∧ ∀ (i : Nat) l, ll[i]? = some l → ∃ b off u, a = some ⟨b, off, none⟩ ∧ b < w.heap.size ∧ w.cell? ⟨b, off + i, none⟩ = some u ∧ IntsAt w u l ∧ (∀ g, u.ownBlock = some g → g < w.heap.size)
/-- Codes in memory, read only. -/
def CodesAt (w : World) (v : Value) (cs : List (List Instr)) (cv : Nat → Value) : Prop :=
  ∃ a c, v = .slice a cs.length c ∧ ∀ (i : Nat) l, cs[i]? = some l → ∃ b off, a = some ⟨b, off, none⟩ ∧ b < w.heap.size ∧ w.cell? ⟨b, off + i, none⟩ = some (cv i) ∧ CodeAt w (cv i) l ∧ (∀ g, (cv i).ownBlock = some g → g < w.heap.size)
theorem RowsAt.keep {v : Value} {ll : List (List Int)} (h : RowsAt w v ll) (hB : Below w.heap.size w w') : RowsAt w' v ll := by
  obtain ⟨a, c, e, hx⟩ := h
  refine ⟨a, c, e, fun i l hi => ?_⟩
  obtain ⟨b, off, u, e1, hb, hc, hi2, ho⟩ := hx i l hi
  have hM := Mod.below hB
  exact ⟨b, off, u, e1, Nat.lt_of_lt_of_le hb hM.size, hM.cell hc (fun e => e), hi2.frame0 hM, fun g hg => Nat.lt_of_lt_of_le (ho g hg) hM.size⟩
theorem CodesAt.keep {v : Value} {cs : List (List Instr)} {cv : Nat → Value} (h : CodesAt w v cs cv) (hB : Below w.heap.size w w') : CodesAt w' v cs cv := by
  obtain ⟨a, c, e, hx⟩ := h
  refine ⟨a, c, e, fun i l hi => ?_⟩
  obtain ⟨b, off, e1, hb, hc, hi2, ho⟩ := hx i l hi
  have hM := Mod.below hB
  exact ⟨b, off, e1, Nat.lt_of_lt_of_le hb hM.size, hM.cell hc (fun e => e), hi2.frame hM (fun _ _ e => e), fun g hg => Nat.lt_of_lt_of_le (ho g hg) hM.size⟩
theorem IntsAt.src {u : Value} {l : List Int} (h : IntsAt w u l) : ∃ sp c, u = .slice sp l.length c ∧ (0 < (l.map (Value.int .i64)).length → ∃ ad, sp = some ad ∧ ∀ j v, (l.map (Value.int .i64))[j]? = some v → w.cell? (ad.add j) = some v) := by
  obtain ⟨a, c, e, _, hx⟩ := h.at_
  refine ⟨a, c, e, fun hl => ?_⟩
  have hl' : 0 < l.length := by simpa using hl
  obtain ⟨b, off, rfl, _, _⟩ := hx 0 l[0] (List.getElem?_eq_getElem hl')
  refine ⟨_, rfl, fun j v hv => ?_⟩
  rw [List.getElem?_map] at hv
  obtain ⟨x, hx1, rfl⟩ := Option.map_eq_some_iff.1 hv
  obtain ⟨b', off', e', _, hc⟩ := hx j x hx1
  cases e'
  have hadd : (⟨b, off, none⟩ : Addr).add j = ⟨b, off + j, none⟩ := by unfold Addr.add; split <;> simp_all
  rw [hadd]; exact hc
end Qh
