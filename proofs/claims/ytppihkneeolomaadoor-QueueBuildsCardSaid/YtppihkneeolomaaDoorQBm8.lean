/- Texts that belong together, joined. -/
import Derived.Test.YtppihkneeolomaaDoorQBSkinds2
set_option linter.unusedVariables false
set_option linter.unusedSimpArgs false
set_option linter.unusedSectionVars false
/- Faults of lists of ops, in plain: which ops, which numbers. -/
section
namespace Go.Proofs.YtppihkneeolomaaDoor
open Go.RowKit Qs Qh
variable {N : Nat} {w w' : World} {v u : Value} {ll : List (List ROp)} {l : List ROp} {rf : List ROp → Option Int}
/-- The first thread's fault. -/
def allR (rf : List ROp → Option Int) : Nat → List (List ROp) → Int × Int
  | _, [] => (0, -1)
  | i, l :: r => match rf l with
    | some c => (c, i)
    | none => allR rf (i + 1) r
theorem allR_at : ∀ (ll : List (List ROp)) (i k : Nat) (l : List ROp) (c : Int), ll[k]? = some l → (∀ (j : Nat) y, j < k → ll[j]? = some y → rf y = none) → rf l = some c → allR rf i ll = (c, ((i + k : Nat) : Int))
  | [], i, k, l, c, h, _, _ => by simp at h
  | y :: ll, i, 0, l, c, h, _, h0 => by
    simp at h; subst h
    unfold allR; rw [h0]; rfl
  | y :: ll, i, k + 1, l, c, h, ha, h0 => by
    have hy := ha 0 y (by omega) rfl
    have := allR_at ll (i + 1) k l c (by simpa using h) (fun j z hj hz => ha (j + 1) z (by omega) (by simpa using hz)) h0
    unfold allR; rw [hy]
    show allR rf (i + 1) ll = _
    rw [this, show i + 1 + k = i + (k + 1) by omega]
theorem allR_none : ∀ (ll : List (List ROp)) (i : Nat), (∀ (j : Nat) y, ll[j]? = some y → rf y = none) → allR rf i ll = (0, -1)
  | [], i, _ => rfl
  | y :: ll, i, h => by
    unfold allR; rw [h 0 y rfl]
    exact allR_none ll (i + 1) fun j z hz => h (j + 1) z (by simpa using hz)
/-- Is a name among names? -/
def memK (ks : List ByteArray) (s : ByteArray) : Bool := ks.any fun k => decide (k = s)
theorem memK_iff {ks : List ByteArray} {s : ByteArray} : memK ks s = true ↔ s ∈ ks := by
  unfold memK
  rw [List.any_eq_true]
  constructor
  · rintro ⟨k, h, e⟩; rw [← of_decide_eq_true e]; exact h
  · exact fun h => ⟨s, h, by simp⟩
/-- An op's fault: none, a bound, a shape. -/
def kfOpG (W : ByteArray) (ks : List ByteArray) (x : ROp) : Int := if x.1 = W then (if x.2 < 1 ∨ 1000 < x.2 then 2 else 0) else if memK ks x.1 = true ∧ x.2 = 0 then 0 else 3
def rowG (W : ByteArray) (ks : List ByteArray) (l : List ROp) : Option Int := (l.map (kfOpG W ks)).find? fun c => decide (c ≠ 0)
def kfG (W : ByteArray) (ks : List ByteArray) (ll : List (List ROp)) : Int × Int := if manyB ll then allR (rowG W ks) 0 ll else (2, -1)
variable {W : ByteArray} {ks : List ByteArray}
theorem rowG_at : ∀ (l : List ROp) (q : Nat) (x : ROp), l[q]? = some x → (∀ (j : Nat) y, j < q → l[j]? = some y → kfOpG W ks y = 0) → kfOpG W ks x ≠ 0 → rowG W ks l = some (kfOpG W ks x)
  | [], q, x, h, _, _ => by simp at h
  | y :: l, 0, x, h, _, h0 => by
    simp at h; subst h
    unfold rowG; simp [h0]
  | y :: l, q + 1, x, h, ha, h0 => by
    have hy := ha 0 y (by omega) rfl
    have := rowG_at l q x (by simpa using h) (fun j z hj hz => ha (j + 1) z (by omega) (by simpa using hz)) h0
    unfold rowG at this ⊢
    rw [List.map_cons, List.find?_cons_of_neg (by simp [hy])]; exact this
theorem rowG_none {l : List ROp} (h : ∀ (j : Nat) y, l[j]? = some y → kfOpG W ks y = 0) : rowG W ks l = none := by
  unfold rowG
  rw [List.find?_eq_none]
  intro c hc
  obtain ⟨y, hy, rfl⟩ := List.mem_map.1 hc
  obtain ⟨j, hj⟩ := List.getElem?_of_mem hy
  simp [h j y hj]
/-- Words of a list of names. -/
def KsAt (w : World) (g : Nat) (ks : List ByteArray) : Prop := ∀ (i : Nat) x, ks[i]? = some x → w.cell? ⟨g, i, none⟩ = some (.string x)
theorem KsAt.keep {g : Nat} (h : KsAt w g ks) {F : Nat → Prop} (hM : Mod F w w') (hF : ¬ F g) : KsAt w' g ks := fun i x hi => hM.cell (h i x hi) hF
end Go.Proofs.YtppihkneeolomaaDoor
end
/- Lists of any ops, made in memory; quiescentlaw3.opsOf. -/
section
namespace Go.Proofs.YtppihkneeolomaaDoor
open Go.RowKit Qs Qh
variable {N k S : Nat} {w w1 w' : World} {v u cv cv' : Value} {ll : List (List ROp)} {l : List ROp} {cs : Nat → List ROp} {vk : Nat → Value}
theorem RRow.frame (h : RRow N w u l) {F : Nat → Prop} (hM : Mod F w w') (hF : ∀ b, u.ownBlock = some b → ¬ F b) : RRow N w' u l := by
  obtain ⟨a, c, rfl, hx⟩ := h
  refine ⟨a, c, rfl, fun i x hi => ?_⟩
  obtain ⟨b, off, rfl, hb, h0, h1⟩ := hx i x hi
  exact ⟨b, off, rfl, hb, hM.cell h0 (hF b rfl), hM.cell h1 (hF b rfl)⟩
theorem RRow.mono (h : RRow N w u l) {N' : Nat} (hN : N ≤ N') : RRow N' w u l := by
  obtain ⟨a, c, e, hx⟩ := h
  refine ⟨a, c, e, fun i x hi => ?_⟩
  obtain ⟨b, off, e1, hb, h⟩ := hx i x hi
  exact ⟨b, off, e1, Nat.lt_of_lt_of_le hb hN, h⟩
def rV (_ : Nat) (x : ROp) : List Value := [.string (x.1), .int .i64 (x.2)]
theorem rRow_own {T : TypeId} (h : w.ownsRow 0 T 2 u l.length (flat rV 0 l)) : RRow w.heap.size w u l := by
  rcases h.2 with ⟨rfl, h0⟩ | ⟨g, cap, cur, rfl, _, hg, h1, h2, h3, h4⟩
  · exact ⟨none, 0, by rw [h0], fun i x hi => by have := (List.getElem?_eq_some_iff.1 hi).1; omega⟩
  · refine ⟨_, cap, rfl, fun i x hi => ⟨g, 0, rfl, lt_of_block hg, ?_, ?_⟩⟩
    all_goals
      have hlt : i < l.length := (List.getElem?_eq_some_iff.1 hi).1
      have key : ∀ j, j < 2 → cur[i * 2 + j]? = (rV 0 x)[j]? := fun j hj => by
        have hgt := flat_get rV 2 (fun _ _ => rfl) hj l 0 i x hi []
        rw [List.append_nil] at hgt
        have e : cur[i * 2 + j]? = (cur.toList.take (l.length * 2))[i * 2 + j]? := by
          rw [List.getElem?_take, if_pos (by omega)]; simp
        rw [e, h4, hgt]; rfl
    · have := key 0 (by omega)
      rw [cell_of_heap hg, Nat.zero_add]; exact this
    · have := key 1 (by omega)
      rw [cell_of_heap hg, Nat.zero_add]; exact this
/-- The lists made so far. -/
structure Rls (S : Nat) (w : World) (cv : Value) (cs : Nat → List ROp) (k : Nat) (vk : Nat → Value) : Prop where
  own : w.ownsRow 0 59 1 cv k ((List.range k).map vk)
  vin : ∀ g, cv.ownBlock = some g → S ≤ g
  at_ : ∀ i, i < k → RRow w.heap.size w (vk i) (cs i)
  bin : ∀ i g, i < k → (vk i).ownBlock = some g → S ≤ g ∧ g < w.heap.size
  ne : ∀ i g, i < k → (vk i).ownBlock = some g → cv.ownBlock ≠ some g
theorem Rls.nil (S : Nat) (w : World) (cs : Nat → List ROp) (vk : Nat → Value) : Rls S w (.slice none 0 0) cs 0 vk :=
  ⟨World.ownsRow_nil w 0 _ 1, fun g h => (by cases h), fun i h => by omega, fun i g h => by omega, fun i g h => by omega⟩
theorem Rls.keep (C : Rls S w cv cs k vk) {F : Nat → Prop} (hM : Mod F w w1) (hF : ∀ b, S ≤ b → b < w.heap.size → ¬ F b) : Rls S w1 cv cs k vk := by
  refine ⟨⟨C.own.1, ?_⟩, C.vin, fun i hi => ((C.at_ i hi).frame hM fun b hb => hF b (C.bin i b hi hb).1 (C.bin i b hi hb).2).mono hM.size, fun i g hi hg => ⟨(C.bin i g hi hg).1, Nat.lt_of_lt_of_le (C.bin i g hi hg).2 hM.size⟩, C.ne⟩
  rcases C.own.2 with e | ⟨g, cap, cur, rfl, h0, hg, r⟩
  · exact .inl e
  · exact .inr ⟨g, cap, cur, rfl, h0, hM.heap hg (hF _ (C.vin g rfl) (lt_of_block hg)), r⟩
theorem Rls.push (C : Rls S w cv cs k vk) (hS : S ≤ w.heap.size) (hc : RRow w.heap.size w u (cs k)) (hu : ∀ g, u.ownBlock = some g → S ≤ g ∧ g < w.heap.size ∧ cv.ownBlock ≠ some g)
    (hown : w1.ownsRow 0 59 1 cv' (k + 1) ((List.range k).map vk ++ [u])) (hg : w.grownBy w1 cv.ownBlock) (hfr : ∀ g, cv'.ownBlock = some g → cv.ownBlock = some g ∨ w.heap.size ≤ g) :
    Rls S w1 cv' cs (k + 1) (fun i => if i = k then u else vk i) := by
  have hM : Mod (fun x => cv.ownBlock = some x) w w1 := (Mod.refl (fun x => cv.ownBlock = some x) w).grown hg fun j hj _ => hj
  refine ⟨?_, fun g h => ?_, fun i hi => ?_, fun i g hi h => ?_, fun i g hi h e => ?_⟩
  · have : (List.range (k + 1)).map (fun i => if i = k then u else vk i) = (List.range k).map vk ++ [u] := by
      rw [List.range_succ, List.map_append]
      congr 1
      · refine List.map_congr_left fun i hi => ?_
        have := List.mem_range.1 hi
        rw [if_neg (by omega)]
      · simp
    rw [this]; exact hown
  · rcases hfr g h with e | e
    · exact C.vin g e
    · omega
  · by_cases e : i = k
    · subst e
      simp only [if_true]
      exact (hc.frame hM fun b hb e => (hu b hb).2.2 e).mono hM.size
    · rw [if_neg e]
      exact ((C.at_ i (by omega)).frame hM fun b hb e' => C.ne i b (by omega) hb e').mono hM.size
  · have hs := hM.size
    by_cases e : i = k
    · subst e
      simp only [if_true] at h
      have := hu g h; exact ⟨this.1, by omega⟩
    · rw [if_neg e] at h
      have := C.bin i g (by omega) h; exact ⟨this.1, by omega⟩
  · have hlt : g < w.heap.size := by
      by_cases e : i = k
      · subst e
        simp only [if_true] at h
        exact (hu g h).2.1
      · rw [if_neg e] at h
        exact (C.bin i g (by omega) h).2
    rcases hfr g e with e' | e'
    · by_cases e2 : i = k
      · subst e2
        simp only [if_true] at h
        exact (hu g h).2.2 e'
      · rw [if_neg e2] at h
        exact C.ne i g (by omega) h e'
    · omega
theorem Rls.rin (C : Rls S w cv cs k vk) : RIn w.heap.size w cv ((List.range k).map cs) := by
  rcases C.own.2 with ⟨rfl, h0⟩ | ⟨g, cap, cur, rfl, _, hg, h1, h2, h3, h4⟩
  · subst h0
    exact ⟨none, 0, rfl, fun i l h => by simp at h⟩
  · refine ⟨some ⟨g, 0, none⟩, cap, by simp, fun i l h => ?_⟩
    have hlt : i < k := by have := (List.getElem?_eq_some_iff.1 h).1; simpa using this
    have hl : l = cs i := by
      rw [List.getElem?_map, List.getElem?_range hlt] at h
      exact (Option.some.inj h).symm
    subst hl
    refine ⟨g, 0, vk i, rfl, lt_of_block hg, ?_, C.at_ i hlt⟩
    rw [cell_of_heap hg, Nat.zero_add]
    have e : cur[i]? = (cur.toList.take (k * 1))[i]? := by
      rw [List.getElem?_take, if_pos (by omega)]; simp
    rw [e, h4, List.getElem?_map, List.getElem?_range hlt]; rfl
end Go.Proofs.YtppihkneeolomaaDoor
end
/- quiescentlaw3.opsOf: a copy of lists of ops. -/
section
namespace Go.Proofs.YtppihkneeolomaaDoor
open Go.RowKit Qs Qh
theorem opInfoR : (Tryd.prog.info? 63).map (fun i => (i.zero, i.size, i.bytes)) = some (some (.agg #[.string ⟨#[]⟩, .int .i64 0]), 2, 24) := by kernel_rfl
theorem opsInfoR : (Tryd.prog.info? 59).map (fun i => (i.zero, i.size, i.bytes)) = some (some (.slice none 0 0), 1, 24) := by kernel_rfl
theorem wp_append_none {P : Program} {w : World} {o : Oper} {a : Act} {K : Act → World → Prop} {Q : Exit → Act → World → Prop} (s x : Operand) (t : TypeId)
    (ho : o.op = .call { callee := .builtin .append, args := #[s, x], argTypes := #[t, t] })
    (base : Nat) (e : TypeId) (i : TypeInfo) (size : Nat) (ht : P.underlying t = some (.slice e)) (hi : P.info? e = some i)
    (v : Value) (n : Nat) (xs : List Value) (hs : a.eval s = v) (hown : w.ownsRow base e size v n xs) (hx : a.eval x = .slice none 0 0)
    (h : K (a.put o.dst v) w) : o.wp P a w K Q := by
  have hrun := run_append_owned_none (P := P) (w := w) base t o.type e i size ht hi v n xs hown
  unfold Oper.wp
  simp [execOp, ho, resolve, invoke, builtin, hs, hx, hrun, Result.andThen]
  exact h
theorem wpList_append_none {P : Program} {w : World} {ops : Array Oper} {rest : List Oper} {o : Oper} {a : Act} {Q : Exit → Act → World → Prop} (hgd : o.guard = none) (s x : Operand) (t : TypeId)
    (ho : o.op = .call { callee := .builtin .append, args := #[s, x], argTypes := #[t, t] })
    (base : Nat) (e : TypeId) (i : TypeInfo) (size : Nat) (ht : P.underlying t = some (.slice e)) (hi : P.info? e = some i)
    (v : Value) (n : Nat) (xs : List Value) (hs : a.eval s = v) (hown : w.ownsRow base e size v n xs) (hx : a.eval x = .slice none 0 0)
    (h : wpList P ops Q rest (a.put o.dst v) w) : wpList P ops Q (o :: rest) a w :=
  wpList_plain hgd fun _ hK => wp_append_none s x t ho base e i size ht hi v n xs hs hown hx (hK _ _ h)
variable {N k S : Nat} {w w1 w' : World} {v u cv cv' : Value} {ll : List (List ROp)} {l : List ROp} {cs : Nat → List ROp} {vk : Nat → Value}
/-- Nil slices hold nothing. -/
def NilOk (w : World) (v : Value) : Prop := ∀ b off n m (i : Nat) k c, v = .slice (some ⟨b, off, none⟩) n m → i < n → w.cell? ⟨b, off + i, none⟩ = some (.slice none k c) → c = 0
theorem rV_ones (l : List ROp) : ∀ s, ∀ u ∈ flat rV s l, u.oneCell' = true := by
  induction l with
  | nil => intro s u h; cases h
  | cons x l ih =>
    intro s u h
    simp only [flat, rV, List.mem_append] at h
    rcases h with h | h
    · simp at h; rcases h with rfl | rfl <;> rfl
    · exact ih (s + 1) u h
theorem rV_len (l : List ROp) (s : Nat) : (flat rV s l).length = l.length * 2 := flat_length rV 2 (fun _ _ => rfl) l s
theorem RRow.src {ad : Addr} {n c : Nat} (h : RRow N w (.slice (some ad) n c) l) : ∀ (j : Nat) y, (flat rV 0 l)[j]? = some y → w.cell? (ad.add j) = some y := by
  obtain ⟨a, c', e, hx⟩ := h
  intro j y hj
  have hlt := (List.getElem?_eq_some_iff.1 hj).1
  rw [rV_len] at hlt
  obtain ⟨x, hxi⟩ : ∃ x, l[j / 2]? = some x := ⟨_, List.getElem?_eq_getElem (by omega)⟩
  obtain ⟨b, off, rfl, hb, h0, h1⟩ := hx (j / 2) x hxi
  cases e
  have hgt := flat_get rV 2 (fun _ _ => rfl) (show j % 2 < 2 by omega) l 0 (j / 2) x hxi []
  rw [List.append_nil, show j / 2 * 2 + j % 2 = j by omega, hj] at hgt
  have hadd : (⟨b, off, none⟩ : Addr).add j = ⟨b, off + j, none⟩ := by unfold Addr.add; split <;> simp_all
  rw [hadd]
  rcases (by omega : j % 2 = 0 ∨ j % 2 = 1) with e | e
  · rw [e] at hgt
    have : some y = some (Value.string x.1) := hgt
    rw [this, ← h0, show off + j = off + j / 2 * 2 by omega]
  · rw [e] at hgt
    have : some y = some (Value.int .i64 x.2) := hgt
    rw [this, ← h1, show off + j = off + j / 2 * 2 + 1 by omega]
set_option maxHeartbeats 8000000 in
theorem opsOf_ok (H : RIn N w v ll) (hnil : NilOk w v) (hlen : ll.length ≤ 10) (hrow : ∀ l ∈ ll, l.length ≤ 30) :
    Calls Tryd.prog 11 #[v] w fun e w' => ∃ x, e = .returned x ∧ Mod noF w w' ∧ RIn w'.heap.size w' x ll := by
  have HH := Lib.hid H
  obtain ⟨a, c, rfl, -⟩ := H
  have Hrow := Lib.hid hrow
  have Hnil := Lib.hid hnil
  clear hrow hnil
  obtain ⟨i0, hti, hz0, hz1, hz2⟩ := info_parts opInfoR
  obtain ⟨j0, htj, hy0, hy1, hy2⟩ := info_parts opsInfoR
  go_enter Tryd.func11, Tryd.ntmps11
  go_wp2
  go_loopw [3, 4] (fun x i wr => ∃ (k : Nat) (vk : Nat → Value), k ≤ ll.length ∧ i = .int .i64 k ∧ Mod noF w wr ∧ Rls w.heap.size wr x (fun i => ll.getD i []) k vk) (fun _ i _ => ll.length - (intOf i).toNat)
  case atStart => exact ⟨0, fun _ => .nilIface, Nat.zero_le _, rfl, Mod.refl _ _, Rls.nil _ _ _ _⟩
  case round =>
    obtain ⟨k, vk, hk, rfl, hm, hO⟩ := hrel
    obtain ⟨xa, xb, xc, rfl⟩ := slice_of_own hO.own
    have HO := Lib.hid hO
    have Hm := Lib.hid hm
    clear hO
    by_cases hlt : k < ll.length
    · have hd : decide ((k : Int) < (ll.length : Int)) = true := by simp; omega
      have hki : (k : Int) < (ll.length : Int) := by omega
      obtain ⟨l, hl⟩ : ∃ l, ll[k]? = some l := ⟨_, List.getElem?_eq_getElem hlt⟩
      obtain ⟨a', c', e', hx⟩ := HH.out
      cases e'
      obtain ⟨b, off, u, rfl, hb, hc, hr⟩ := hx k l hl
      have hrl := hr.keep hm (fun _ _ e => e)
      obtain ⟨ua, uc, rfl, -⟩ := hr
      have hc1 := hm.cell hc (fun e => e)
      have hl30 := Hrow.out l (List.mem_of_getElem? hl)
      have hls : ll.getD k [] = l := by rw [List.getD_eq_getElem?_getD, hl]; rfl
      have hsz := hm.size
      have hbnd : k + 1 ≤ maxLen := by unfold maxLen; omega
      have hbnd2 : 0 + l.length ≤ maxLen := by unfold maxLen; omega
      have Hls := Lib.hid hls
      have Hrl := Lib.hid hrl
      have hnl := Hnil.out b off _ _ k l.length uc rfl hlt
      clear hx hls hrl hm
      cases ua with
      | none =>
        obtain rfl := hnl hc
        have hl0 : l = [] := by
          obtain ⟨a2, c2, e2, hx2⟩ := Hrl.out
          cases l with
          | nil => rfl
          | cons y l =>
            obtain ⟨_, _, e3, _⟩ := hx2 0 y rfl
            cases e2; cases e3
        subst hl0
        simp only [List.length_nil] at hc1
        clear hc hnl hl hbnd2 hl30
        go_wp2_with (at_builtin; first | (refine wpList_append_none rfl (.tmp 13) (.tmp 17) 59 rfl 0 63 i0 2 Tryd.underlying59 hti (.slice none 0 0) 0 [] rfl (World.ownsRow_nil _ 0 _ 2) rfl ?_) | (refine wpList_append_mine _ rfl (.tmp 12) (.tmp 19) 22 rfl 59 j0 (.slice none 0 0) 1 24 Tryd.underlying22 htj hy0 hy1 hy2 rfl (by decide) _ k ((List.range k).map vk) rfl (by exact World.ownsRow.alloc HO.out.own _) ⟨wr.heap.size, 0, none⟩ 1 1 [.slice none 0 0] rfl rfl (by exact new_cells_at _ _ _ rfl) (one_row _ rfl) hbnd (by omega) ?_; intro v4 w7 hown hgr hfr _; obtain ⟨va, vb, vc, rfl⟩ := slice_of_own hown; have Hown4 := Lib.hid hown; have Hgr := Lib.hid hgr; have Hfr := Lib.hid hfr; clear hown hgr hfr))
        go_wp2
        go_roundw
        case rel =>
          refine ⟨k + 1, _, by omega, by go_num, ((Hm.out.alloc _).trans ((Mod.refl (fun x => (Value.slice xa xb xc).ownBlock = some x) _).grown Hgr.out fun j hj _ => hj) fun x hx e => ?_), (HO.out.keep ((Mod.refl noF wr).alloc _) fun _ _ _ e => e).push (u := .slice none 0 0) (by simp; omega) (by rw [Hls.out]; exact ⟨none, 0, rfl, fun i x hi => by simp at hi⟩) (fun g hg => by cases hg) Hown4.out Hgr.out Hfr.out⟩
          have := HO.out.vin x e; omega
        case measure => simp [intOf]; omega
      | some ad =>
        clear hc hnl hl
        have hsrc := Hrl.out.src
        have hone := rV_ones l 0
        have hlen2 := rV_len l 0
        have Hsrc := Lib.hid hsrc
        have Hone := Lib.hid hone
        have Hlen2 := Lib.hid hlen2
        clear hsrc hone hlen2
        go_wp2_with (at_builtin; first | (refine wpList_append_mine _ rfl (.tmp 13) (.tmp 17) 59 rfl 63 i0 (.agg #[.string ⟨#[]⟩, .int .i64 0]) 2 24 Tryd.underlying59 hti hz0 hz1 hz2 rfl (by decide) (.slice none 0 0) 0 [] rfl (World.ownsRow_nil _ 0 _ 2) ad l.length uc (flat rV 0 l) rfl Hlen2.out Hsrc.out Hone.out hbnd2 (by omega) ?_; intro v4 w7 hown hgr hfr _; obtain ⟨ya, yb, yc, rfl⟩ := slice_of_own hown; have Hown4 := Lib.hid hown; have Hgr := Lib.hid hgr; have Hfr := Lib.hid hfr; have hm7 : Mod noF wr w7 := (Mod.refl noF wr).trans ((Mod.refl (fun x => (Value.slice none 0 0).ownBlock = some x) wr).grown hgr fun j hj _ => hj) (fun x hx e => by cases e); have HO4 := Lib.hid (HO.out.keep hm7 fun _ _ _ e => e); have Hm7 := Lib.hid hm7; clear hown hgr hfr hm7) | (refine wpList_append_mine _ rfl (.tmp 12) (.tmp 19) 22 rfl 59 j0 (.slice none 0 0) 1 24 Tryd.underlying22 htj hy0 hy1 hy2 rfl (by decide) _ k ((List.range k).map vk) rfl (by exact World.ownsRow.alloc HO4.out.own _) ⟨w7.heap.size, 0, none⟩ 1 1 [.slice ya yb yc] rfl rfl (by exact new_cells_at _ _ _ rfl) (one_row _ rfl) hbnd (by omega) ?_; intro v5 w8 hown hgr hfr _; obtain ⟨za, zb, zc, rfl⟩ := slice_of_own hown; have Hown5 := Lib.hid hown; have Hgr5 := Lib.hid hgr; have Hfr5 := Lib.hid hfr; clear hown hgr hfr))
        have hs7 := Hm7.out.size
        have hrow7 : RRow w7.heap.size w7 (.slice ya yb yc) l := by
          have h := Hown4.out
          rw [List.nil_append, Nat.zero_add] at h
          exact rRow_own h
        have Hrow7 := Lib.hid hrow7
        clear hrow7
        go_wp2
        go_roundw
        case rel =>
          refine ⟨k + 1, _, by omega, by go_num, (((Hm.out.trans0 Hm7.out).alloc _).trans ((Mod.refl (fun x => (Value.slice xa xb xc).ownBlock = some x) _).grown Hgr5.out fun j hj _ => hj) fun x hx e => ?_), (HO4.out.keep ((Mod.refl noF w7).alloc _) fun _ _ _ e => e).push (u := .slice ya yb yc) (by simp; omega) (by rw [Hls.out]; exact (Hrow7.out.frame ((Mod.refl noF w7).alloc _) fun _ _ e => e).mono (by simp)) (fun g hg => ?_) Hown5.out Hgr5.out Hfr5.out⟩
          · have := HO.out.vin x e; omega
          · have h1 : wr.heap.size ≤ g := by
              rcases Hfr.out g hg with e | e
              · cases e
              · exact e
            have h2 := (World.ownsRow.lt Hown4.out g hg).2
            refine ⟨by omega, by simp; omega, fun e => ?_⟩
            have := (World.ownsRow.lt HO.out.own g e).2
            omega
        case measure => simp [intOf]; omega
    · have hd : decide ((k : Int) < (ll.length : Int)) = false := by simp; omega
      obtain rfl : k = ll.length := by omega
      have hfin : (List.range ll.length).map (fun i => ll.getD i []) = ll := by
        refine List.ext_getElem? fun i => ?_
        rw [List.getElem?_map]
        by_cases h : i < ll.length
        · rw [List.getElem?_range h, List.getElem?_eq_getElem h]; simp [h]
        · rw [List.getElem?_eq_none (by simpa using h), List.getElem?_eq_none (by omega)]; rfl
      have hR := HO.out.rin
      rw [hfin] at hR
      have HR := Lib.hid hR
      clear hR hfin hm
      go_wp2
      go_ret
      exact ⟨_, rfl, Hm.out, HR.out⟩
end Go.Proofs.YtppihkneeolomaaDoor
end
