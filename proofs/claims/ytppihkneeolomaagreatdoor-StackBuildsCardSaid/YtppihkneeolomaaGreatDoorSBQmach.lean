/- The queue on the plain machine: runs. -/
import Derived.Test.YtppihkneeolomaaGreatDoorSBm1
set_option linter.unusedVariables false
set_option linter.unusedSimpArgs false
set_option linter.unusedSectionVars false
namespace Qu
open Qs Qg
variable {n t u : Nat} {q : Int} {sm : Prop} {s s' : A} {p : Nat → Pos} {ch : List Int} {G G0 : Gh} {r : List Int} {P P' : Pos} {lab : Nat → List UInt8} {ops : Nat → List Op} {N : Int} {m : M}
/-- The places of the threads. -/
def posOf (ops : Nat → List Op) (m : M) (t : Nat) : Pos := (annOf (ops t)).getD (m.thr t).pc .fin
def codeQ (lab : Nat → List UInt8) (ops : Nat → List Op) (t : Nat) : List Instr := codeOf lab 0 (ops t)
structure Good (n : Nat) (q : Int) (sm : Prop) (lab : Nat → List UInt8) (ops : Nat → List Op) (G0 : Gh) (N : Int) (m : M) : Prop where
  W : WM n (codeQ lab ops) m
  ft : m.faults = 0
  inv : ∃ ch G, Evs n G0 G ∧ G.marks = m.marks ∧ (sm → G.lost = []) ∧ Inv n q sm (absM m) (posOf ops m) ch G
  tm : ∀ v ∈ tms m, 0 ≤ v ∧ v ≤ N + 1
  hok : HokL m.cells
  len : m.cells.length = 64
theorem ex_pc (s : A) (t : Nat) (x : Instr) (tg u : Nat) (hu : u ≠ t) : (s.ex t x tg).pc u = s.pc u := by
  unfold A.ex
  split
  all_goals first
    | rfl
    | exact if_neg hu
    | (split <;> first | rfl | exact if_neg hu)
    | (show A.pc (if _ then _ else _) u = _; split <;> rfl)
theorem ex_pct (s : A) (t : Nat) (x : Instr) (tg : Nat) : (Jmp s t x → (s.ex t x tg).pc t = tg) ∧ (¬ Jmp s t x → (s.ex t x tg).pc t = s.pc t) := by
  obtain ⟨op, a, b, c, to⟩ := x
  unfold Jmp
  simp only
  by_cases h14 : op = 14
  · subst h14
    unfold A.ex
    simp only
    by_cases h : s.reg t a.toNat = 0
    · rw [if_pos h]; exact ⟨fun _ => if_pos rfl, fun g => absurd (by simp [h]) g⟩
    · rw [if_neg h]; exact ⟨fun g => by simp [h] at g, fun _ => rfl⟩
  · by_cases h15 : op = 15
    · subst h15
      unfold A.ex
      simp only
      by_cases h : s.reg t a.toNat = s.reg t b.toNat
      · rw [if_pos h]; exact ⟨fun _ => if_pos rfl, fun g => absurd (by simp [h]) g⟩
      · rw [if_neg h]; exact ⟨fun g => by simp [h] at g, fun _ => rfl⟩
    · by_cases h16 : op = 16
      · subst h16
        exact ⟨fun _ => if_pos rfl, fun g => absurd (.inr (.inr rfl)) g⟩
      · refine ⟨fun g => by omega, fun _ => ?_⟩
        unfold A.ex
        split
        all_goals first
          | rfl
          | (rename_i h; simp only at h; omega)
          | (show A.pc (if _ then _ else _) t = _; split <;> rfl)
theorem fence_marks (m : M) (t : Nat) : (m.fence t).marks = m.marks := rfl
theorem force_marks (m : M) : ∀ k, (m.force k).marks = m.marks
  | 0 => rfl
  | k + 1 => (fence_marks (m.force k) k).trans (force_marks m k)
theorem drain_marks (m : M) (t : Nat) : (m.drain t).1.marks = m.marks := by
  unfold M.drain
  split <;> rfl
theorem exec_marks (m : M) (t : Nat) (x : Instr) (h : x.op ≠ 18) : (m.exec t x).marks = m.marks := by
  unfold M.exec
  simp only
  split
  all_goals first
    | rfl
    | exact absurd (by assumption) h
    | exact force_marks m _
    | (split <;> first
        | rfl
        | (split <;> first | rfl | exact drain_marks m t)
        | (show M.marks (if _ then (m.drain t).1 else m) = _; split <;> first | rfl | exact drain_marks m t)
        | (show M.marks (if _ then _ else _) = _; split <;> rfl))
theorem Good.buf0 (G : Good n q sm lab ops G0 N m) : ∀ t, n ≤ t → (absM m).buf t = [] := fun t ht => by
  show (m.waitsOf t).map enOf = []
  unfold M.waitsOf
  rw [List.getD, List.getElem?_eq_none (by rw [G.W.W]; exact ht)]
  rfl
theorem Good.bufs (G : Good n q sm lab ops G0 N m) : ∀ u, ∀ e ∈ (absM m).buf u, (absM m).here e.a = true := fun u e he => by
  by_cases hu : u < n
  · obtain ⟨ch, H, _, _, _, I⟩ := G.inv
    exact I.bufs hu e he
  · rw [G.buf0 u (by omega)] at he; simp at he
theorem tms_len (m : M) : (tms m).length = m.cells.length := by unfold tms; rw [List.length_map]
theorem Good.up (G : Good n q sm lab ops G0 N m) : Good n q sm lab ops G0 (N + 1) m := ⟨G.W, G.ft, G.inv, fun v hv => by have := G.tm v hv; omega, G.hok, G.len⟩
theorem Good.drain (G : Good n q sm lab ops G0 N m) (t : Nat) (ht : t < n) : Good n q sm lab ops G0 (N + 1) (m.drain t).1 := by
  obtain ⟨h1, h2, h3, h4⟩ := abs_drain G.W ht (G.bufs t)
  obtain ⟨ch, H, e1, e2, e3, I⟩ := G.inv
  have hp : posOf ops (m.drain t).1 = posOf ops m := by funext u; unfold posOf M.thr; rw [h4]
  refine ⟨h3, by rw [h2]; exact G.ft, ⟨ch, H, e1, by rw [drain_marks]; exact e2, e3, by rw [h1, hp]; exact I.dr t G.buf0⟩, by rw [tms_drain]; intro v hv; have := G.tm v hv; omega, hok_drain _ _ G.hok, by rw [← tms_len, tms_drain, tms_len]; exact G.len⟩
theorem posOf_step {m' : M} {P : Pos} (h1 : ∀ u, u ≠ t → (m'.thr u).pc = (m.thr u).pc) (h2 : (annOf (ops t)).getD (m'.thr t).pc .fin = P) : posOf ops m' = upd (posOf ops m) t P := by
  funext u
  by_cases e : u = t
  · subst e; rw [upd_same]; exact h2
  · rw [upd_ne _ _ e]; unfold posOf; rw [h1 u e]
/-- Where few are put, a cell is free. -/
theorem Good.free (G : Good n q sm lab ops G0 N m) (hN : N < 50000000) (hn : n ≤ 6) (hs : G0.num n ≤ 40) : ∃ c ∈ m.cells, c.here = false := by
  obtain ⟨ch, H, e1, e2, e3, I⟩ := G.inv
  refine free_cell (l := q :: (ch ++ (List.range n).map fun t => (own ((absM m).reg t) (posOf ops m t)).getD 0)) (fun x hx => ?_) ?_ G.hok (fun c hc => ?_) G.W.cells
  · simp only [List.mem_cons, List.mem_append, List.mem_map, List.mem_range]
    rcases I.here x hx with g | g | ⟨t, g1, g2⟩
    · exact .inl g
    · exact .inr (.inl g)
    · exact .inr (.inr ⟨t, g1, by rw [g2]; rfl⟩)
  · have h1 := e1.num
    have h2 : H.chv.length = ch.length - 1 := by rw [I.vals]; simp
    have h3 : H.chv.length ≤ H.num n := by unfold Gh.num; omega
    rw [G.len]
    simp
    omega
  · have := G.tm c.times (List.mem_map.2 ⟨c, hc, rfl⟩)
    omega
theorem Good.step (hl : Lab lab) (G : Good n q sm lab ops G0 N m) (h0 : 0 ≤ N) (hN : N < 1000000) (ht : t < n) (hsm : sm → n ≤ 6 ∧ G0.num n ≤ 40) (hnum : G0.num n < 500) : Good n q sm lab ops G0 (N + 1) (m.step t).1 := by
  unfold M.step
  rw [G.W.code t ht]
  cases hx : (codeQ lab ops t)[(m.thr t).pc]? with
  | none => exact G.up
  | some x =>
    have hln := line hl (ops t) 0 [] (fun x hx => by cases hx) _ x hx
    simp only
    split
    · exact G.up
    · rename_i h20
      obtain ⟨p1, p2, p3⟩ := abs_setPc G.W ht ((m.thr t).pc + 1)
      obtain ⟨m1, hm1⟩ : ∃ m1, m1 = m.setPc t ((m.thr t).pc + 1) := ⟨_, rfl⟩
      rw [← hm1] at p1 p2 p3 ⊢
      have hft1 : m1.faults = 0 := by rw [p2]; exact G.ft
      have htm1 : tms m1 = tms m := by rw [hm1]; rfl
      have hok1 : HokL m1.cells := by rw [hm1]; exact G.hok
      have hcl1 : m1.cells = m.cells := by rw [hm1]; rfl
      have hmk1 : m1.marks = m.marks := by rw [hm1]; rfl
      clear hm1
      have fx := insP_of hln.ip
      have hins : insOf (posOf ops m t) = some (x.op, x.A, x.B, x.C) := hln.ins h20
      obtain ⟨ch, H, e1, e2, e3, I⟩ := G.inv
      have hbs : ∀ u, ∀ e ∈ (absM m1).buf u, (absM m1).here e.a = true := by rw [p1]; exact G.bufs
      have hI1 : Inv n q sm (absM m1) (posOf ops m) ch H := by rw [p1]; exact I.pc _ _
      have hb0 : ∀ t, n ≤ t → (absM m1).buf t = [] := by rw [p1]; exact G.buf0
      have hpc1 : (absM m1).pc t = (m.thr t).pc + 1 := by rw [p1]; exact if_pos rfl
      have hpcu : ∀ u, u ≠ t → (absM m1).pc u = (m.thr u).pc := fun u hu => by rw [p1]; exact if_neg hu
      have hnx : Nxt (posOf ops m t) ((annOf (ops t)).getD ((m.thr t).pc + 1) .fin) := hln.nx h20
      -- behind what is drained ahead
      have hkeep := A.pre_keep (P := fun s' => Inv n q sm s' (posOf ops m) ch H ∧ ∀ t, n ≤ t → s'.buf t = []) (fun s' u ⟨a, b⟩ => ⟨a.dr u b, fun v hv => by
        rw [A.dr_buf]
        split
        · rename_i e; rw [← e, b v hv]; rfl
        · exact b v hv⟩) (absM m1) n t x ⟨hI1, hb0⟩
      obtain ⟨s2, hs2⟩ : ∃ s2, s2 = (absM m1).pre n t x := ⟨_, rfl⟩
      rw [← hs2] at hkeep
      have hI2 := hkeep.1
      have hs2reg : s2.reg = (absM m1).reg := by
        rw [hs2]
        exact A.pre_keep (P := fun s' => s'.reg = (absM m1).reg) (fun s' u h => by rw [A.dr_reg]; exact h) _ _ _ _ rfl
      have hs2here : s2.here = (absM m1).here := by
        rw [hs2]
        exact A.pre_keep (P := fun s' => s'.here = (absM m1).here) (fun s' u h => by rw [A.dr_here]; exact h) _ _ _ _ rfl
      have hs2pc : s2.pc = (absM m1).pc := by
        rw [hs2]
        exact A.pre_keep (P := fun s' => s'.pc = (absM m1).pc) (fun s' u h => by rw [A.dr_pc]; exact h) _ _ _ _ rfl
      have hfen : x.op = 8 ∨ x.op = 9 ∨ x.op = 11 ∨ x.op = 12 → s2.buf t = [] := fun h => by
        rw [hs2]
        unfold A.pre
        rcases h with h | h | h | h <;> (rw [h]; simp only; rw [A.fn_buf, if_pos rfl])
      by_cases h10 : x.op = 10
      · -- a cell
        have hP : ∃ v l, posOf ops m t = .pu 0 v l := by
          cases e : posOf ops m t with
          | fin => rw [e] at hins; cases hins
          | pu o v l =>
            rw [e, h10] at hins
            match o, hins with
            | 0, _ => exact ⟨v, l, rfl⟩
            | 1, h => simp [insOf] at h
            | 2, h => simp [insOf] at h
            | 3, h => simp [insOf] at h
            | 4, h => simp [insOf] at h
            | 5, h => simp [insOf] at h
            | 6, h => simp [insOf] at h
            | 7, h => simp [insOf] at h
            | _ + 8, h => cases h
          | ta o l =>
            rw [e, h10] at hins
            exfalso
            unfold insOf at hins
            split at hins <;> first | (rename_i hh; cases hh; done) | (simp at hins; done) | (rename_i hh; cases hh; simp at hins; done)
        obtain ⟨v, l, hP⟩ := hP
        rw [hP] at hins hnx
        obtain ⟨to, rfl⟩ := ins_eq hins
        have hq1 : (annOf (ops t)).getD ((m.thr t).pc + 1) .fin = .pu 1 v l := hnx
        cases ea : allocAt m1.cells 0 with
        | none =>
          have hex : m1.exec t ⟨10, 3, 0, 0, to⟩ = m1.setReg t 3 0 := by
            unfold M.exec
            simp only [ea]
          have hns : ¬ sm := fun h => by
            obtain ⟨c, hc, hc2⟩ := G.free (by omega) (hsm h).1 (hsm h).2
            rw [← hcl1] at hc
            rw [allocAt_none _ _ ea c hc] at hc2; cases hc2
          obtain ⟨r1, r2, r3⟩ := abs_setReg p3 ht (a := 3) (by decide) 0
          rw [hex]
          have hpos : posOf ops (m1.setReg t 3 0) = upd (posOf ops m) t (.pu 1 v l) := by
            have hpc : ∀ u, ((m1.setReg t 3 0).thr u).pc = (absM m1).pc u := fun u => by
              have : (absM (m1.setReg t 3 0)).pc u = (absM m1).pc u := by rw [r1]; rfl
              exact this
            refine posOf_step (fun u hu => ?_) ?_
            · rw [hpc]; exact hpcu u hu
            · rw [hpc, hpc1]; exact hq1
          refine ⟨r3, by rw [r2]; exact hft1, ⟨ch, H, e1, by show H.marks = m1.marks; rw [hmk1]; exact e2, e3, by rw [r1, hpos]; exact hI1.pu0n ht hP hns⟩, fun w hw => ?_, hok1, by show m1.cells.length = 64; rw [hcl1]; exact G.len⟩
          have hw' : w ∈ tms m1 := hw
          rw [htm1] at hw'
          have := G.tm w hw'; omega
        | some k =>
          obtain ⟨k, g⟩ := k
          obtain ⟨_, y, hy, hyh, hyt⟩ := allocAt_some _ _ ea
          obtain ⟨na, n1, n2, n3, n4, n5, n6, n7⟩ := abs_alloc p3 ht (xa := 3) (by decide) ⟨y, List.mem_of_getElem? hy, hyh⟩ (fun v hv => by rw [htm1] at hv; exact G.tm v hv) (by omega) 0 0 to
          have hpos : posOf ops (m1.exec t ⟨10, 3, 0, 0, to⟩) = upd (posOf ops m) t (.pu 1 v l) := by
            have hpc : ∀ u, ((m1.exec t ⟨10, 3, 0, 0, to⟩).thr u).pc = (absM m1).pc u := fun u => by
              have : (absM (m1.exec t ⟨10, 3, 0, 0, to⟩)).pc u = (absM m1).pc u := by rw [n3]; rfl
              exact this
            refine posOf_step (fun u hu => ?_) ?_
            · rw [hpc]; exact hpcu u hu
            · rw [hpc, hpc1]; exact hq1
          refine ⟨n5, by rw [n4]; exact hft1, ⟨ch, H, e1, by rw [exec_marks _ _ _ (by simp), hmk1]; exact e2, e3, by rw [n3, hpos]; exact hI1.pu0 ht hP n1 n2⟩, fun v hv => by have := n6 v hv; omega, hok_exec _ _ _ (fun v hv => ?_) hok1, by rw [n7, hcl1]; exact G.len⟩
          rw [htm1] at hv; exact (G.tm v hv).1
      · by_cases h18 : x.op = 18
        · -- a mark
          have hP : ∃ l, posOf ops m t = .ta 27 l := by
            cases e : posOf ops m t with
            | fin => rw [e] at hins; cases hins
            | pu o v l =>
              rw [e, h18] at hins
              exfalso
              unfold insOf at hins
              split at hins <;> first | (rename_i hh; cases hh; done) | (simp at hins; done) | (rename_i hh; cases hh; simp at hins; done)
            | ta o l =>
              rw [e, h18] at hins
              by_cases h27 : o = 27
              · exact ⟨l, by rw [h27]⟩
              · exfalso
                unfold insOf at hins
                split at hins <;> first | (simp at hins; done) | (rename_i hh; cases hh; exact h27 rfl)
          obtain ⟨l, hP⟩ := hP
          rw [hP] at hins hnx
          obtain ⟨to, rfl⟩ := ins_eq hins
          have hq1 : (annOf (ops t)).getD ((m.thr t).pc + 1) .fin = .ta 28 l := hnx
          obtain ⟨k1, k2⟩ := hI1.ta27 ht hP
          have hmr : ((m1.thr t).reg 4) = (absM m1).reg t 4 := rfl
          have hlen : m1.marks.length < 500 := by
            have := e1.num
            unfold Gh.num at this
            rw [hmk1, ← e2]
            unfold Gh.num at hnum
            omega
          have hex : m1.exec t ⟨18, 4, 0, 0, to⟩ = { m1 with marks := m1.marks ++ [((t : Int), (m1.thr t).reg 4)] } := by
            unfold M.exec
            simp only [if_pos hlen]
          rw [hex]
          have hab : absM { m1 with marks := m1.marks ++ [((t : Int), (m1.thr t).reg 4)] } = absM m1 := rfl
          have hpos : posOf ops { m1 with marks := m1.marks ++ [((t : Int), (m1.thr t).reg 4)] } = upd (posOf ops m) t (.ta 28 l) := by
            refine posOf_step (fun u hu => ?_) ?_
            · exact hpcu u hu
            · show (annOf (ops t)).getD ((absM m1).pc t) .fin = _
              rw [hpc1]; exact hq1
          refine ⟨p3.cong rfl p3.W p3.words rfl p3.wts, hft1, ⟨ch, _, .snoc e1 k1, ?_, e3, by rw [hab, hpos]; exact k2⟩, fun w hw => ?_, hok1, by show m1.cells.length = 64; rw [hcl1]; exact G.len⟩
          · show H.marks ++ [((t : Int), (absM m1).reg t 4)] = m1.marks ++ [((t : Int), (m1.thr t).reg 4)]
            rw [e2, hmk1, hmr]
          · have hw' : w ∈ tms m1 := hw
            rw [htm1] at hw'
            have := G.tm w hw'; omega
        · obtain ⟨tg, htg, htg2⟩ : ∃ tg, (14 ≤ x.op → x.op ≤ 16 → labelAt x.to (codeQ lab ops t) 0 = some tg) ∧ (14 ≤ x.op → x.op ≤ 16 → (annOf (ops t)).getD tg .fin = (posOf ops m t).go (tgtOf (posOf ops m t))) := by
            by_cases h : 14 ≤ x.op ∧ x.op ≤ 16
            · obtain ⟨j, j1, j2⟩ := hln.jmp h.1 h.2
              exact ⟨j, fun _ _ => by rw [List.nil_append] at j1; rw [show codeQ lab ops t = codeOf lab 0 (ops t) from rfl, j1]; simp, fun _ _ => j2⟩
            · exact ⟨0, fun a b => absurd ⟨a, b⟩ h, fun a b => absurd ⟨a, b⟩ h⟩
          have hJop : Jmp s2 t x → 14 ≤ x.op ∧ x.op ≤ 16 := fun h => by
            unfold Jmp at h
            omega
          obtain ⟨P', hP'⟩ : ∃ P', P' = (annOf (ops t)).getD ((s2.ex t x tg).pc t) .fin := ⟨_, rfl⟩
          have hgoes : Goes s2 t x (posOf ops m t) P' := by
            refine ⟨fun hJ => ?_, fun hJ => ?_⟩
            · rw [hP', (ex_pct s2 t x tg).1 hJ]
              exact htg2 (hJop hJ).1 (hJop hJ).2
            · rw [hP', (ex_pct s2 t x tg).2 hJ, hs2pc, hpc1]
              exact hnx
          obtain ⟨hR, ch', H', k1, k2, k3, k4⟩ := hI2.ins ht hins h10 h18 hfen hgoes tg
          have hR' : (absM m1).Req t x := by
            unfold A.Req at hR ⊢
            rw [hs2reg, hs2here] at hR
            exact hR
          obtain ⟨r1, r2, r3⟩ := abs_exec p3 ht fx hR' hbs htg
          rw [← hs2] at r1
          have hpos : posOf ops (m1.exec t x) = upd (posOf ops m) t P' := by
            have hpc : ∀ u, ((m1.exec t x).thr u).pc = (s2.ex t x tg).pc u := fun u => by
              have : (absM (m1.exec t x)).pc u = (s2.ex t x tg).pc u := by rw [r1]
              exact this
            refine posOf_step (fun u hu => ?_) ?_
            · rw [hpc, ex_pc _ _ _ _ _ hu, hs2pc]; exact hpcu u hu
            · rw [hpc]; exact hP'.symm
          refine ⟨r3, by rw [r2]; exact hft1, ⟨ch', H', .snoc e1 k1, by rw [exec_marks _ _ _ h18, hmk1, k2]; exact e2, fun h => by rw [k3 h]; exact e3 h, by rw [r1, hpos]; exact k4⟩, fun v hv => ?_, hok_exec _ _ _ (fun v hv => ?_) hok1, ?_⟩
          · rw [tms_exec _ _ _ h10, htm1] at hv
            have := G.tm v hv; omega
          · rw [htm1] at hv; exact (G.tm v hv).1
          · rw [← tms_len, tms_exec _ _ _ h10, htm1, tms_len]; exact G.len
theorem Good.turn (hl : Lab lab) (G : Good n q sm lab ops G0 N m) (h0 : 0 ≤ N) (hN : N < 1000000) (hn : 0 < n) (hsm : sm → n ≤ 6 ∧ G0.num n ≤ 40) (hnum : G0.num n < 500) (k : Int) : Good n q sm lab ops G0 (N + 1) (m.turn k).1 := by
  have hT := G.W.T
  have h1 := Int.emod_lt_of_pos k (show (0 : Int) < 2 * (m.T.length : Int) by omega)
  have h2 := Int.emod_nonneg k (show (2 * (m.T.length : Int)) ≠ 0 by omega)
  unfold M.turn
  simp only []
  split
  · rename_i hk
    rw [hT] at hk
    exact G.step hl h0 hN (by rw [hT]; exact hk) hsm hnum
  · rename_i hk
    exact G.drain _ (by omega)
theorem Good.run (hl : Lab lab) (hn : 0 < n) (hsm : sm → n ≤ 6 ∧ G0.num n ≤ 40) (hnum : G0.num n < 500) : ∀ (l : List Int) {N : Int} {m : M}, Good n q sm lab ops G0 N m → 0 ≤ N → N + l.length ≤ 1000000 → Good n q sm lab ops G0 (N + l.length) (m.run l).1
  | [], N, m, G, _, _ => by
    show Good n q sm lab ops G0 (N + ((0 : Nat) : Int)) m
    rw [show N + ((0 : Nat) : Int) = N by omega]; exact G
  | k :: l, N, m, G, h0, h => by
    simp only [List.length_cons] at h ⊢
    have := Good.run hl hn hsm hnum l (G.turn hl h0 (by omega) hn hsm hnum k) (by omega) (by omega)
    rw [show N + ((l.length + 1 : Nat) : Int) = N + 1 + (l.length : Int) by omega]
    exact this
end Qu
