/- Texts that belong together, joined. -/

set_option linter.unusedVariables false
set_option linter.unusedSimpArgs false
set_option linter.unusedSectionVars false
/- The plain model of the reference machine of the seed 'quiescent' (chapters 1 to 4): cells, stores that wait, threads, turns. Plain data and functions; no program in sight. -/
section
namespace Qs

/-- An instruction: its op as a number (see opName), its three numbers, its label. -/
structure Instr where
  op : Nat
  A : Int
  B : Int
  C : Int
  to : List UInt8
deriving DecidableEq

structure Cell where
  words : List Int
  times : Int
  here : Bool
deriving DecidableEq

/-- A store that waits: the cell, its gen, the word, the value. -/
structure Wt where
  c : Int
  g : Int
  w : Int
  v : Int
deriving DecidableEq

structure Thr where
  code : List Instr
  regs : List Int
  pc : Nat
deriving DecidableEq

structure M where
  cells : List Cell
  waits : List (List Wt)
  T : List Thr
  marks : List (Int × Int)
  faults : Int
deriving DecidableEq

abbrev W32 : Int := 4294967296

def isWord (n : Int) : Bool := decide (0 ≤ n) && decide (n < W32)

def cellAt (l : List Cell) (c : Int) : Option Cell := if c < 0 then none else l[c.toNat]?

def hereIn (l : List Cell) (c g : Int) : Bool :=
  match cellAt l c with
  | some x => x.here && decide (g = x.times - 1)
  | none => false

/-- The cell and gen of a word that is none of 0. -/
def refOf (n : Int) : Option (Int × Int) :=
  if n = 0 then none else if isWord n then some ((n - 1) % 64, (n - 1) / 64) else none

/-- The word of a ref: 0 where there is none. -/
def wordOf (c g : Int) : Int :=
  if 0 ≤ c ∧ c < 64 ∧ 0 ≤ g ∧ g ≤ 67108864 ∧ isWord (g * 64 + c + 1) then g * 64 + c + 1 else 0

def setWord (l : List Cell) (c : Nat) (w : Nat) (v : Int) : List Cell :=
  l.modify c fun x => { x with words := x.words.set w v }

def getWord (l : List Cell) (c : Nat) (w : Nat) : Int := ((l[c]?).map fun x => x.words.getD w 0).getD 0

/-- What a thread reads: the last store that waits, else memory. -/
def look (ws : List Wt) (c g w : Int) (v : Int) : Int :=
  ws.foldl (fun v x => if x.c = c ∧ x.g = g ∧ x.w = w then x.v else v) v

/-- A drained store: the cells behind it, and whether its cell was gone. -/
def drain1 (l : List Cell) (x : Wt) : List Cell × Bool :=
  if hereIn l x.c x.g then (setWord l x.c.toNat x.w.toNat x.v, false) else (l, true)

def drainAll : List Cell → List Wt → List Cell × Nat
  | l, [] => (l, 0)
  | l, x :: r =>
    let a := drain1 l x
    let b := drainAll a.1 r
    (b.1, b.2 + (if a.2 then 1 else 0))

def M.waitsOf (m : M) (t : Nat) : List Wt := m.waits.getD t []

/-- Fence of a thread. -/
def M.fence (m : M) (t : Nat) : M :=
  let a := drainAll m.cells (m.waitsOf t)
  { m with cells := a.1, waits := m.waits.set t [], faults := m.faults + a.2 }

def M.force (m : M) : Nat → M
  | 0 => m
  | k + 1 => (m.force k).fence k

/-- Drain of a thread: the error's number (0: none; 5: nothing waits), a fault noted. -/
def M.drain (m : M) (t : Nat) : M × Int :=
  match m.waitsOf t with
  | [] => (m, 5)
  | x :: r =>
    let a := drain1 m.cells x
    ({ m with cells := a.1, waits := m.waits.set t r, faults := m.faults + (if a.2 then 1 else 0) }, 0)

/-- Where a label is set first. -/
def labelAt (to : List UInt8) : List Instr → Nat → Option Nat
  | [], _ => none
  | x :: r, i => if x.op = 17 ∧ x.to = to then some i else labelAt to r (i + 1)

def allocAt : List Cell → Nat → Option (Nat × Int)
  | [], _ => none
  | x :: r, i => if x.here then allocAt r (i + 1) else some (i, x.times)

def Thr.reg (h : Thr) (a : Int) : Int := h.regs.getD a.toNat 0

def M.thr (m : M) (t : Nat) : Thr := m.T.getD t ⟨[], [], 0⟩

def M.setReg (m : M) (t : Nat) (a : Int) (v : Int) : M :=
  { m with T := m.T.modify t fun h => { h with regs := h.regs.set a.toNat v } }

def M.setPc (m : M) (t : Nat) (p : Nat) : M :=
  { m with T := m.T.modify t fun h => { h with pc := p } }

/-- The cell that a word names, if it is there. -/
def M.names (m : M) (n : Int) : Option (Int × Int) :=
  match refOf n with
  | some (c, g) => if hereIn m.cells c g then some (c, g) else none
  | none => none

def M.fault (m : M) : M := { m with faults := m.faults + 1 }

def M.done (m : M) (t : Nat) : Bool :=
  match (m.thr t).code[(m.thr t).pc]? with
  | none => true
  | some x => x.op == 20

def M.jump (m : M) (t : Nat) (to : List UInt8) : M := m.setPc t ((labelAt to (m.thr t).code 0).getD 0)

def sum2 (op : Nat) (a b : Int) : Int :=
  match op with
  | 2 => if a + b ≥ W32 then a + b - W32 else a + b
  | 3 => if a - b < 0 then a - b + W32 else a - b
  | 4 => ((a.toNat &&& b.toNat : Nat) : Int)
  | _ => ((a.toNat ^^^ b.toNat : Nat) : Int)

/-- An instruction of a thread whose place is beyond it already. -/
def M.exec (m : M) (t : Nat) (x : Instr) : M :=
  let h := m.thr t
  match x.op with
  | 0 => m.setReg t x.A x.B
  | 1 => m.setReg t x.A (h.reg x.B)
  | 2 => m.setReg t x.A (sum2 2 (h.reg x.B) (h.reg x.C))
  | 3 => m.setReg t x.A (sum2 3 (h.reg x.B) (h.reg x.C))
  | 4 => m.setReg t x.A (sum2 4 (h.reg x.B) (h.reg x.C))
  | 5 => m.setReg t x.A (sum2 5 (h.reg x.B) (h.reg x.C))
  | 6 => match m.names (h.reg x.B) with
    | some (c, g) => m.setReg t x.A (look (m.waitsOf t) c g x.C (getWord m.cells c.toNat x.C.toNat))
    | none => m.fault.setReg t x.A 0
  | 7 => match m.names (h.reg x.A) with
    | some (c, g) =>
      let m1 := if (m.waitsOf t).length ≥ 8 then (m.drain t).1 else m
      { m1 with waits := m1.waits.modify t fun l => l ++ [⟨c, g, x.C, h.reg x.B⟩] }
    | none => m.fault
  | 8 => match m.names (h.reg x.B) with
    | some (c, _) =>
      let m1 := m.fence t
      ({ m1 with cells := setWord m1.cells c.toNat x.C.toNat (h.reg x.A) } : M).setReg t x.A (getWord m1.cells c.toNat x.C.toNat)
    | none => m.fault.setReg t x.A 0
  | 9 => match m.names (h.reg x.A) with
    | some (c, _) =>
      let m1 := m.fence t
      let v := getWord m1.cells c.toNat x.C.toNat
      (if v = h.reg x.B then ({ m1 with cells := setWord m1.cells c.toNat x.C.toNat (h.reg (x.B + 1)) } : M) else m1).setReg t x.B v
    | none => m.fault.setReg t x.B 0
  | 10 => match allocAt m.cells 0 with
    | some (i, n) => ({ m with cells := m.cells.set i ⟨[0, 0, 0, 0], n + 1, true⟩ } : M).setReg t x.A (wordOf i n)
    | none => m.setReg t x.A 0
  | 11 => match m.names (h.reg x.A) with
    | some (c, _) =>
      let m1 := m.fence t
      { m1 with cells := m1.cells.modify c.toNat fun y => { y with here := false } }
    | none => m.fault
  | 12 => m.fence t
  | 13 => m.force m.T.length
  | 14 => if h.reg x.A = 0 then m.jump t x.to else m
  | 15 => if h.reg x.A = h.reg x.B then m.jump t x.to else m
  | 16 => m.jump t x.to
  | 18 => if m.marks.length < 500 then { m with marks := m.marks ++ [((t : Int), h.reg x.A)] } else m
  | 19 => if h.reg x.A = 0 then m.fault else m
  | _ => m

/-- A step of a thread (9: it is done). -/
def M.step (m : M) (t : Nat) : M × Int :=
  match (m.thr t).code[(m.thr t).pc]? with
  | none => (m, 9)
  | some x => if x.op = 20 then (m, 9) else ((m.setPc t ((m.thr t).pc + 1)).exec t x, 0)

/-- A turn by a number. -/
def M.turn (m : M) (n : Int) : M × Int :=
  let k := (n % (2 * (m.T.length : Int))).toNat
  if k < m.T.length then m.step k else m.drain (k - m.T.length)

/-- A run, and how many numbers had no error. -/
def M.run : M → List Int → M × Int
  | m, [] => (m, 0)
  | m, n :: r =>
    let a := m.turn n
    let b := a.1.run r
    (b.1, b.2 + (if a.2 = 0 then 1 else 0))

def M.rest (m : M) : Bool := (List.range m.T.length).all fun t => m.done t && (m.waitsOf t).isEmpty

end Qs
end
/- What a queue's threads do, counted: what is still to put, what stands in, what is taken and not told, what is told. -/
section
namespace Qu
def upd {α : Type} (f : Nat → α) (t : Nat) (v : α) : Nat → α := fun u => if u = t then v else f u
theorem upd_same {α : Type} (f : Nat → α) (t : Nat) (v : α) : upd f t v t = v := if_pos rfl
theorem upd_ne {α : Type} (f : Nat → α) {t u : Nat} (v : α) (h : u ≠ t) : upd f t v u = f u := if_neg h
structure Gh where
  rem : Nat → List Int
  chv : List Int
  pend : Nat → List Int
  marks : List (Int × Int)
  lost : List Int
def sumN (f : Nat → Nat) : Nat → Nat
  | 0 => 0
  | k + 1 => sumN f k + f k
theorem sumN_cong {f g : Nat → Nat} : ∀ (k : Nat), (∀ i, i < k → f i = g i) → sumN f k = sumN g k
  | 0, _ => rfl
  | k + 1, h => by
    show sumN f k + f k = sumN g k + g k
    rw [sumN_cong k fun i hi => h i (by omega), h k (by omega)]
theorem sumN_upd (f : Nat → Nat) (t v : Nat) : ∀ (k : Nat), t < k → sumN (upd f t v) k + f t = sumN f k + v
  | 0, h => by omega
  | k + 1, h => by
    show sumN (upd f t v) k + upd f t v k + f t = sumN f k + f k + v
    by_cases e : t = k
    · subst e
      have h2 : sumN (upd f t v) t = sumN f t := sumN_cong t fun i hi => upd_ne f v (by omega)
      rw [upd_same, h2]
      omega
    · have := sumN_upd f t v k (by omega)
      rw [upd_ne f v (fun h => e h.symm)]
      omega
inductive Ev (n : Nat) : Gh → Gh → Prop
  | same (G : Gh) : Ev n G G
  | put (G : Gh) (t : Nat) (v : Int) (r : List Int) : t < n → G.rem t = v :: r → Ev n G { G with rem := upd G.rem t r, chv := G.chv ++ [v] }
  | lose (G : Gh) (t : Nat) (v : Int) (r : List Int) : t < n → G.rem t = v :: r → Ev n G { G with rem := upd G.rem t r, lost := v :: G.lost }
  | take (G : Gh) (t : Nat) (v : Int) (r : List Int) : t < n → G.chv = v :: r → G.pend t = [] → Ev n G { G with chv := r, pend := upd G.pend t [v] }
  | mark (G : Gh) (t : Nat) (v : Int) : t < n → G.pend t = [v] → Ev n G { G with pend := upd G.pend t [], marks := G.marks ++ [((t : Int), v)] }
namespace Gh
end Gh
/-- How many there are, all in all. -/
def Gh.num (G : Gh) (n : Nat) : Nat := sumN (fun t => (G.rem t).length) n + G.chv.length + sumN (fun t => (G.pend t).length) n + G.marks.length + G.lost.length
theorem len_upd (f : Nat → List Int) (t : Nat) (l : List Int) : (fun u => (upd f t l u).length) = upd (fun u => (f u).length) t l.length := by
  funext u
  unfold upd
  split <;> rfl
theorem Ev.num {n : Nat} {G G' : Gh} (h : Ev n G G') : G'.num n = G.num n := by
  cases h with
  | same => rfl
  | put t w r ht e =>
    unfold Gh.num
    simp only [len_upd]
    have h1 := sumN_upd (fun u => (G.rem u).length) t r.length n ht
    rw [e] at h1
    simp only [List.length_append, List.length_cons, List.length_nil] at h1 ⊢
    omega
  | lose t w r ht e =>
    unfold Gh.num
    simp only [len_upd]
    have h1 := sumN_upd (fun u => (G.rem u).length) t r.length n ht
    rw [e] at h1
    simp only [List.length_cons] at h1 ⊢
    omega
  | take t w r ht e ep =>
    unfold Gh.num
    simp only [len_upd]
    have h1 := sumN_upd (fun u => (G.pend u).length) t [w].length n ht
    rw [ep] at h1
    rw [e]
    simp only [List.length_cons, List.length_nil] at h1 ⊢
    omega
  | mark t w ht ep =>
    unfold Gh.num
    simp only [len_upd]
    have h1 := sumN_upd (fun u => (G.pend u).length) t ([] : List Int).length n ht
    rw [ep] at h1
    simp only [List.length_append, List.length_cons, List.length_nil] at h1 ⊢
    omega
/-- One thread puts what grows; what others tell grows. -/
structure Grow (n : Nat) (G : Gh) : Prop where
  alone : ∀ t, 0 < t → t < n → G.rem t = []
  up : (G.chv ++ G.rem 0).Pairwise (· < ·)
  pend : ∀ t, t < n → ∀ v ∈ G.pend t, ∀ w ∈ G.chv ++ G.rem 0, v < w
  told : ∀ (t : Nat) v, ((t : Int), v) ∈ G.marks → ∀ w ∈ G.pend t ++ (G.chv ++ G.rem 0), v < w
  marks : G.marks.Pairwise fun a b => a.1 = b.1 → a.2 < b.2
theorem Ev.grow {n : Nat} {G G' : Gh} (h : Ev n G G') (g : Grow n G) : Grow n G' := by
  obtain ⟨g1, g2, g3, g4, g5⟩ := g
  cases h with
  | same => exact ⟨g1, g2, g3, g4, g5⟩
  | put t w r ht e =>
    obtain rfl : t = 0 := Classical.byContradiction fun h => by rw [g1 t (by omega) ht] at e; cases e
    have e2 : (G.chv ++ [w]) ++ upd G.rem 0 r 0 = G.chv ++ G.rem 0 := by rw [upd_same, e]; simp
    refine ⟨fun t h1 h2 => ?_, ?_, fun t ht v hv => ?_, fun t v hv => ?_, g5⟩
    · show upd G.rem 0 r t = []
      rw [upd_ne _ _ (by omega)]; exact g1 t h1 h2
    · show ((G.chv ++ [w]) ++ upd G.rem 0 r 0).Pairwise (· < ·)
      rw [e2]; exact g2
    · show ∀ x ∈ (G.chv ++ [w]) ++ upd G.rem 0 r 0, v < x
      rw [e2]; exact g3 t ht v hv
    · show ∀ x ∈ G.pend t ++ ((G.chv ++ [w]) ++ upd G.rem 0 r 0), v < x
      rw [e2]; exact g4 t v hv
  | lose t w r ht e =>
    obtain rfl : t = 0 := Classical.byContradiction fun h => by rw [g1 t (by omega) ht] at e; cases e
    have hs : (G.chv ++ upd G.rem 0 r 0).Sublist (G.chv ++ G.rem 0) := by
      rw [upd_same, e]
      exact List.Sublist.append (List.Sublist.refl _) (List.sublist_cons_self _ _)
    refine ⟨fun t h1 h2 => ?_, g2.sublist hs, fun t ht v hv x hx => g3 t ht v hv x (hs.subset hx), fun t v hv x hx => ?_, g5⟩
    · show upd G.rem 0 r t = []
      rw [upd_ne _ _ (by omega)]; exact g1 t h1 h2
    · refine g4 t v hv x ?_
      rcases List.mem_append.1 hx with h | h
      · exact List.mem_append.2 (.inl h)
      · exact List.mem_append.2 (.inr (hs.subset h))
  | take t w r ht e ep =>
    rw [e] at g2 g3 g4
    rw [List.cons_append, List.pairwise_cons] at g2
    refine ⟨g1, g2.2, fun u hu v hv x hx => ?_, fun u v hv x hx => ?_, g5⟩
    · have hv' : v ∈ upd G.pend t [w] u := hv
      by_cases e2 : u = t
      · subst e2
        rw [upd_same, List.mem_singleton] at hv'
        subst hv'
        exact g2.1 x hx
      · rw [upd_ne _ _ e2] at hv'
        exact g3 u hu v hv' x (List.mem_cons_of_mem _ hx)
    · have hx' : x ∈ upd G.pend t [w] u ++ (r ++ G.rem 0) := hx
      refine g4 u v hv x ?_
      rcases List.mem_append.1 hx' with h | h
      · by_cases e2 : u = t
        · subst e2
          rw [upd_same, List.mem_singleton] at h
          subst h
          exact List.mem_append.2 (.inr (by simp))
        · rw [upd_ne _ _ e2] at h
          exact List.mem_append.2 (.inl h)
      · exact List.mem_append.2 (.inr (List.mem_cons_of_mem _ h))
  | mark t w ht ep =>
    refine ⟨g1, g2, fun u hu v hv => ?_, fun u v hv x hx => ?_, ?_⟩
    · have hv' : v ∈ upd G.pend t [] u := hv
      by_cases e2 : u = t
      · subst e2; rw [upd_same] at hv'; cases hv'
      · rw [upd_ne _ _ e2] at hv'; exact g3 u hu v hv'
    · have hx' : x ∈ upd G.pend t [] u ++ (G.chv ++ G.rem 0) := hx
      have hx2 : x ∈ G.pend u ++ (G.chv ++ G.rem 0) := by
        rcases List.mem_append.1 hx' with h | h
        · by_cases e2 : u = t
          · subst e2; rw [upd_same] at h; cases h
          · rw [upd_ne _ _ e2] at h; exact List.mem_append.2 (.inl h)
        · exact List.mem_append.2 (.inr h)
      rcases List.mem_append.1 hv with h | h
      · exact g4 u v h x hx2
      · rw [List.mem_singleton] at h
        obtain ⟨h1, rfl⟩ := Prod.mk.inj h
        obtain rfl : u = t := by omega
        refine g3 u ht v (by rw [ep]; simp) x ?_
        rcases List.mem_append.1 hx' with h | h
        · rw [upd_same] at h; cases h
        · exact h
    · show (G.marks ++ [((t : Int), w)]).Pairwise _
      rw [List.pairwise_append]
      refine ⟨g5, List.pairwise_singleton _ _, fun a ha b hb => ?_⟩
      rw [List.mem_singleton] at hb
      subst hb
      intro h1
      obtain ⟨a1, a2⟩ := a
      simp only at h1 ⊢
      subst h1
      exact g4 t a2 ha w (by rw [ep]; simp)
end Qu
end
/- Rows of blocks of code: labels that stand in one block alone. -/
section
namespace Qu
open Qs
theorem labelAt_shift (to : List UInt8) : ∀ (c : List Instr) (k d : Nat), labelAt to c (k + d) = (labelAt to c k).map (· + d)
  | [], _, _ => rfl
  | x :: r, k, d => by
    unfold labelAt
    split
    · rfl
    · rw [show k + d + 1 = k + 1 + d from by omega]
      exact labelAt_shift to r (k + 1) d
theorem labelAt_skip {to : List UInt8} : ∀ {A : List Instr} (B : List Instr) (k : Nat), (∀ x ∈ A, x.op = 17 → x.to ≠ to) → labelAt to (A ++ B) k = labelAt to B (k + A.length)
  | [], B, k, _ => rfl
  | x :: A, B, k, h => by
    show labelAt to (x :: (A ++ B)) k = _
    unfold labelAt
    rw [if_neg (fun g => h x (by simp) g.1 g.2), labelAt_skip B (k + 1) (fun y hy => h y (by simp [hy])), List.length_cons, show k + 1 + A.length = k + (A.length + 1) from by omega]
    cases B <;> rfl
theorem labelAt_first {to : List UInt8} : ∀ {A : List Instr} (B : List Instr) (k : Nat) {j : Nat}, labelAt to A k = some j → labelAt to (A ++ B) k = some j
  | [], B, k, j, h => by cases h
  | x :: A, B, k, j, h => by
    show labelAt to (x :: (A ++ B)) k = _
    unfold labelAt at h ⊢
    split
    · rename_i g; rw [if_pos g] at h; exact h
    · rename_i g; rw [if_neg g] at h; exact labelAt_first B (k + 1) h
/-- A label of a block that stands in a row. -/
theorem row_label {A B C : List Instr} {to : List UInt8} {j : Nat} (h : ∀ x ∈ A, x.op = 17 → x.to ≠ to) (hb : labelAt to B 0 = some j) : labelAt to (A ++ (B ++ C)) 0 = some (A.length + j) := by
  rw [labelAt_skip _ _ h, labelAt_shift to (B ++ C) 0 A.length, labelAt_first C 0 hb]
  simp [Nat.add_comm]
end Qu
end
/- The code of a lock's customer (statements SpinSafe, SpinEnds), as plain data. -/
section
namespace Qs
/-- Turns by rising numbers from i on. -/
def M.goes (m : M) : Nat → Nat → M
  | 0, _ => m
  | k + 1, i => ((m.turn i).1).goes k (i + 1)
end Qs
end
/- The plain machine seen by addresses: a word that names a cell names it for good, for a cell that is given anew has another word. -/
section
namespace Qg
open Qs
/-- A store that waits, by its address. -/
structure En where
  a : Int
  w : Nat
  v : Int
deriving DecidableEq
structure A where
  here : Int → Bool
  val : Int → Nat → Int
  buf : Nat → List En
  reg : Nat → Nat → Int
  pc : Nat → Nat
def lk1 (l : List En) (x : Int) (w : Nat) (v : Int) : Int := l.foldl (fun v e => if e.a = x ∧ e.w = w then e.v else v) v
namespace A
def vw (s : A) (t : Nat) (x : Int) (w : Nat) : Int := lk1 (s.buf t) x w (s.val x w)
def put (s : A) (e : En) : A := { s with val := fun x w => if x = e.a ∧ w = e.w then e.v else s.val x w }
def setB (s : A) (t : Nat) (l : List En) : A := { s with buf := fun u => if u = t then l else s.buf u }
def setR (s : A) (t k : Nat) (v : Int) : A := { s with reg := fun u i => if u = t ∧ i = k then v else s.reg u i }
def setP (s : A) (t p : Nat) : A := { s with pc := fun u => if u = t then p else s.pc u }
/-- The first store of a thread drained. -/
def dr (s : A) (t : Nat) : A := match s.buf t with
  | [] => s
  | e :: r => (s.put e).setB t r
def dra : A → Nat → Nat → A
  | s, t, 0 => s
  | s, t, k + 1 => (s.dr t).dra t k
def fn (s : A) (t : Nat) : A := s.dra t (s.buf t).length
def fo (s : A) : Nat → A
  | 0 => s
  | k + 1 => (s.fo k).fn k
def free (s : A) (a : Int) : A := { s with here := fun x => if x = a then false else s.here x, val := fun x w => if x = a then 0 else s.val x w }
def give (s : A) (a : Int) : A := { s with here := fun x => if x = a then true else s.here x, val := fun x w => if x = a then 0 else s.val x w }
end A
def enOf (x : Wt) : En := ⟨x.g * 64 + x.c + 1, x.w.toNat, x.v⟩
/-- The cell and the gen of a word. -/
def celOf (x : Int) : Nat := ((x - 1) % 64).toNat
def absM (m : M) : A :=
  { here := fun x => (m.names x).isSome
    val := fun x w => if (m.names x).isSome then getWord m.cells (celOf x) w else 0
    buf := fun t => (m.waitsOf t).map enOf
    reg := fun t k => (m.thr t).regs.getD k 0
    pc := fun t => (m.thr t).pc }
def WtOk (x : Wt) : Prop := 0 ≤ x.c ∧ x.c < 64 ∧ 0 ≤ x.g ∧ x.g * 64 + x.c + 1 < 4294967296 ∧ 0 ≤ x.w ∧ x.w < 4
/-- A machine whose rows are as long as they should be. -/
structure WM (n : Nat) (code : Nat → List Instr) (m : M) : Prop where
  T : m.T.length = n
  W : m.waits.length = n
  code : ∀ t, t < n → (m.thr t).code = code t
  regs : ∀ t, t < n → (m.thr t).regs.length = 8
  words : ∀ c ∈ m.cells, c.words.length = 4
  cells : m.cells.length ≤ 64
  wts : ∀ t, ∀ x ∈ m.waitsOf t, WtOk x
variable {n t : Nat} {code : Nat → List Instr} {m : M} {c : Nat}
theorem hereIn_iff {l : List Cell} {c g : Int} : hereIn l c g = true ↔ 0 ≤ c ∧ ∃ x, l[c.toNat]? = some x ∧ x.here = true ∧ g = x.times - 1 := by
  unfold hereIn cellAt
  by_cases h : c < 0
  · rw [if_pos h]; simp; omega
  · rw [if_neg h]
    cases e : l[c.toNat]? with
    | none => simp
    | some x => simp; omega
theorem refOf_some {x c g : Int} : refOf x = some (c, g) ↔ 0 < x ∧ x < 4294967296 ∧ c = (x - 1) % 64 ∧ g = (x - 1) / 64 := by
  unfold refOf isWord
  by_cases h : x = 0
  · subst h; simp
  · rw [if_neg h]
    by_cases h2 : 0 ≤ x ∧ x < W32
    · rw [if_pos (by simpa using h2)]
      simp only [W32] at h2
      simp only [Option.some.injEq, Prod.mk.injEq]
      constructor
      · rintro ⟨rfl, rfl⟩; exact ⟨by omega, by omega, rfl, rfl⟩
      · rintro ⟨_, _, rfl, rfl⟩; exact ⟨rfl, rfl⟩
    · rw [if_neg (by simpa using h2)]
      simp only [W32] at h2
      simp; omega
theorem names_some {x c g : Int} : m.names x = some (c, g) ↔ refOf x = some (c, g) ∧ hereIn m.cells c g = true := by
  unfold M.names
  cases e : refOf x with
  | none => simp
  | some p =>
    obtain ⟨c', g'⟩ := p
    simp only
    by_cases h : hereIn m.cells c' g' = true
    · rw [if_pos h]; simp; rintro rfl rfl; exact h
    · rw [if_neg h]; simp; rintro rfl rfl; simpa using h
/-- An address is there: its cell. -/
theorem abs_here {x : Int} : (absM m).here x = true ↔ 0 < x ∧ x < 4294967296 ∧ ∃ y, m.cells[celOf x]? = some y ∧ y.here = true ∧ (x - 1) / 64 = y.times - 1 := by
  show (m.names x).isSome = true ↔ _
  rw [Option.isSome_iff_exists]
  constructor
  · rintro ⟨⟨c, g⟩, h⟩
    obtain ⟨h1, h2⟩ := names_some.1 h
    obtain ⟨h3, h4, rfl, rfl⟩ := refOf_some.1 h1
    obtain ⟨h5, y, h6, h7, h8⟩ := hereIn_iff.1 h2
    exact ⟨h3, h4, y, h6, h7, h8⟩
  · rintro ⟨h1, h2, y, h3, h4, h5⟩
    exact ⟨((x - 1) % 64, (x - 1) / 64), names_some.2 ⟨refOf_some.2 ⟨h1, h2, rfl, rfl⟩, hereIn_iff.2 ⟨by omega, y, h3, h4, h5⟩⟩⟩
theorem abs_names {x : Int} (h : (absM m).here x = true) : m.names x = some ((x - 1) % 64, (x - 1) / 64) := by
  obtain ⟨h1, h2, y, h3, h4, h5⟩ := abs_here.1 h
  exact names_some.2 ⟨refOf_some.2 ⟨h1, h2, rfl, rfl⟩, hereIn_iff.2 ⟨by omega, y, h3, h4, h5⟩⟩
/-- Two addresses of one cell are one. -/
theorem here_inj {x y : Int} (hx : (absM m).here x = true) (hy : (absM m).here y = true) (h : celOf x = celOf y) : x = y := by
  obtain ⟨h1, h2, u, h3, h4, h5⟩ := abs_here.1 hx
  obtain ⟨k1, k2, v, k3, k4, k5⟩ := abs_here.1 hy
  rw [h, k3] at h3
  cases h3
  unfold celOf at h
  omega
theorem abs_val {x : Int} (h : (absM m).here x = true) (w : Nat) : (absM m).val x w = getWord m.cells (celOf x) w := by
  show (if (m.names x).isSome then _ else _) = _
  exact if_pos h
theorem abs_val0 {x : Int} (h : ¬ (absM m).here x = true) (w : Nat) : (absM m).val x w = 0 := by
  show (if (m.names x).isSome then _ else _) = _
  exact if_neg h
theorem A_ext {s r : A} (h1 : ∀ x, s.here x = r.here x) (h2 : ∀ x w, s.val x w = r.val x w) (h3 : ∀ t, s.buf t = r.buf t) (h4 : ∀ t k, s.reg t k = r.reg t k) (h5 : ∀ t, s.pc t = r.pc t) : s = r := by
  obtain ⟨a, b, c, d, e⟩ := s
  obtain ⟨a', b', c', d', e'⟩ := r
  simp only at h1 h2 h3 h4 h5
  obtain rfl : a = a' := funext h1
  obtain rfl : b = b' := funext fun x => funext (h2 x)
  obtain rfl : c = c' := funext h3
  obtain rfl : d = d' := funext fun x => funext (h4 x)
  obtain rfl : e = e' := funext h5
  rfl
theorem en_cel {x : Wt} (h : WtOk x) : celOf (enOf x).a = x.c.toNat ∧ ((enOf x).a - 1) % 64 = x.c ∧ ((enOf x).a - 1) / 64 = x.g ∧ 0 < (enOf x).a ∧ (enOf x).a < 4294967296 := by
  obtain ⟨h1, h2, h3, h4, h5, h6⟩ := h
  unfold enOf celOf
  simp only
  omega
/-- What a thread reads. -/
theorem look_lk (l : List Wt) (hl : ∀ x ∈ l, WtOk x) (x : Int) (hx : 0 < x) (w : Int) (hw : 0 ≤ w) : ∀ v, look l ((x - 1) % 64) ((x - 1) / 64) w v = lk1 (l.map enOf) x w.toNat v := by
  induction l with
  | nil => intro v; rfl
  | cons y l ih =>
    intro v
    show look l _ _ w _ = lk1 (l.map enOf) x w.toNat _
    rw [ih (fun z hz => hl z (by simp [hz]))]
    congr 1
    have hy := hl y (by simp)
    obtain ⟨h1, h2, h3, h4, h5, h6⟩ := hy
    have : (y.c = (x - 1) % 64 ∧ y.g = (x - 1) / 64 ∧ y.w = w) ↔ ((enOf y).a = x ∧ (enOf y).w = w.toNat) := by
      unfold enOf; simp only; omega
    show (if y.c = (x - 1) % 64 ∧ y.g = (x - 1) / 64 ∧ y.w = w then y.v else v) = if (enOf y).a = x ∧ (enOf y).w = w.toNat then (enOf y).v else v
    by_cases e : y.c = (x - 1) % 64 ∧ y.g = (x - 1) / 64 ∧ y.w = w
    · rw [if_pos e, if_pos (this.1 e)]; rfl
    · rw [if_neg e, if_neg (fun h => e (this.2 h))]
theorem getWord_set {l : List Cell} {c k w u : Nat} {v : Int} (hl : ∀ c ∈ l, c.words.length = 4) (hc : c < l.length) (hw : w < 4) :
    getWord (setWord l c w v) k u = if k = c ∧ u = w then v else getWord l k u := by
  unfold getWord setWord
  rw [List.getElem?_modify]
  by_cases e : c = k
  · subst e
    obtain ⟨y, hy⟩ : ∃ y, l[c]? = some y := ⟨_, List.getElem?_eq_getElem hc⟩
    have h4 := hl y (List.mem_of_getElem? hy)
    rw [hy]
    simp only [if_true, Option.map_some, Option.getD_some, true_and]
    by_cases e2 : u = w
    · subst e2; rw [if_pos rfl]; simp [List.getD, h4, hw]
    · rw [if_neg e2]; simp [List.getD, List.getElem?_set_ne (fun h => e2 h.symm)]
  · rw [if_neg (fun h => e h.1.symm)]
    simp [e]
theorem here_set {l : List Cell} {c w : Nat} {v : Int} (k g : Int) : hereIn (setWord l c w v) k g = hereIn l k g := by
  unfold hereIn cellAt setWord
  by_cases h : k < 0
  · rw [if_pos h, if_pos h]
  · rw [if_neg h, if_neg h, List.getElem?_modify]
    cases e : l[k.toNat]? with
    | none => by_cases e2 : c = k.toNat <;> simp [e2]
    | some y => by_cases e2 : c = k.toNat <;> simp [e2]
theorem names_cells {m m' : M} (h : ∀ k g, hereIn m'.cells k g = hereIn m.cells k g) (x : Int) : m'.names x = m.names x := by
  unfold M.names
  split
  · rw [h]
  · rfl
/-- A word written. -/
theorem abs_setWord (hW : ∀ c ∈ m.cells, c.words.length = 4) {x : Int} (h : (absM m).here x = true) {w : Nat} (hw : w < 4) (v : Int) (W' : List (List Wt)) (T' : List Thr) (mk : List (Int × Int)) (ft : Int) :
    absM ⟨setWord m.cells (celOf x) w v, W', T', mk, ft⟩ = (absM ⟨m.cells, W', T', mk, ft⟩).put ⟨x, w, v⟩ := by
  obtain ⟨y1, y2, y, y3, y4, y5⟩ := abs_here.1 h
  have hn : ∀ z, M.names ⟨setWord m.cells (celOf x) w v, W', T', mk, ft⟩ z = M.names ⟨m.cells, W', T', mk, ft⟩ z := fun z => names_cells (m := ⟨m.cells, W', T', mk, ft⟩) (fun k g => here_set k g) z
  have hn2 : ∀ z, M.names ⟨m.cells, W', T', mk, ft⟩ z = m.names z := fun z => names_cells (m := m) (fun k g => rfl) z
  refine A_ext (fun z => ?_) (fun z u => ?_) (fun _ => rfl) (fun _ _ => rfl) (fun _ => rfl)
  · show (M.names _ z).isSome = (M.names _ z).isSome
    rw [hn]
  · show (if (M.names _ z).isSome then getWord _ _ _ else 0) = (if z = x ∧ u = w then v else if (M.names _ z).isSome then getWord _ _ _ else 0)
    rw [hn, hn2]
    simp only []
    rw [getWord_set hW (List.getElem?_eq_some_iff.1 y3).1 hw]
    by_cases e : z = x
    · subst e
      have : (m.names z).isSome = true := h
      rw [if_pos this]
      by_cases e2 : u = w
      · rw [if_pos ⟨rfl, e2⟩, if_pos ⟨rfl, e2⟩]
      · rw [if_neg (fun h => e2 h.2), if_neg (fun h => e2 h.2), if_pos this]
    · rw [if_neg (c := z = x ∧ u = w) (fun h => e h.1)]
      by_cases hz : (m.names z).isSome = true
      · rw [if_pos hz, if_pos hz, if_neg (fun h' => e (here_inj hz h h'.1))]
      · rw [if_neg hz, if_neg hz]
end Qg
end
/- Steps of the plain machine, seen by addresses. -/
section
namespace Qg
open Qs
namespace A
/-- What an instruction does behind its fence; tg: where its label is set. -/
def ex (s : A) (t : Nat) (x : Instr) (tg : Nat) : A :=
  match x.op with
  | 0 => s.setR t x.A.toNat x.B
  | 1 => s.setR t x.A.toNat (s.reg t x.B.toNat)
  | 2 => s.setR t x.A.toNat (sum2 2 (s.reg t x.B.toNat) (s.reg t x.C.toNat))
  | 3 => s.setR t x.A.toNat (sum2 3 (s.reg t x.B.toNat) (s.reg t x.C.toNat))
  | 4 => s.setR t x.A.toNat (sum2 4 (s.reg t x.B.toNat) (s.reg t x.C.toNat))
  | 5 => s.setR t x.A.toNat (sum2 5 (s.reg t x.B.toNat) (s.reg t x.C.toNat))
  | 6 => s.setR t x.A.toNat (s.vw t (s.reg t x.B.toNat) x.C.toNat)
  | 7 => s.setB t (s.buf t ++ [⟨s.reg t x.A.toNat, x.C.toNat, s.reg t x.B.toNat⟩])
  | 8 => (s.put ⟨s.reg t x.B.toNat, x.C.toNat, s.reg t x.A.toNat⟩).setR t x.A.toNat (s.val (s.reg t x.B.toNat) x.C.toNat)
  | 9 => (if s.val (s.reg t x.A.toNat) x.C.toNat = s.reg t x.B.toNat then s.put ⟨s.reg t x.A.toNat, x.C.toNat, s.reg t (x.B + 1).toNat⟩ else s).setR t x.B.toNat (s.val (s.reg t x.A.toNat) x.C.toNat)
  | 11 => s.free (s.reg t x.A.toNat)
  | 14 => if s.reg t x.A.toNat = 0 then s.setP t tg else s
  | 15 => if s.reg t x.A.toNat = s.reg t x.B.toNat then s.setP t tg else s
  | 16 => s.setP t tg
  | _ => s
/-- What is drained ahead of an instruction. -/
def pre (s : A) (n t : Nat) (x : Instr) : A :=
  match x.op with
  | 7 => if (s.buf t).length ≥ 8 then s.dr t else s
  | 8 => s.fn t
  | 9 => s.fn t
  | 11 => s.fn t
  | 12 => s.fn t
  | 13 => s.fo n
  | _ => s
def Req (s : A) (t : Nat) (x : Instr) : Prop :=
  match x.op with
  | 6 => s.here (s.reg t x.B.toNat) = true
  | 7 => s.here (s.reg t x.A.toNat) = true
  | 8 => s.here (s.reg t x.B.toNat) = true
  | 9 => s.here (s.reg t x.A.toNat) = true
  | 10 => False
  | 11 => s.here (s.reg t x.A.toNat) = true
  | 18 => False
  | 19 => s.reg t x.A.toNat ≠ 0
  | 20 => False
  | _ => True
theorem dr_here (s : A) (t : Nat) : (s.dr t).here = s.here := by unfold dr; split <;> rfl
theorem dr_reg (s : A) (t : Nat) : (s.dr t).reg = s.reg := by unfold dr; split <;> rfl
theorem dr_pc (s : A) (t : Nat) : (s.dr t).pc = s.pc := by unfold dr; split <;> rfl
theorem dr_buf (s : A) (t u : Nat) : (s.dr t).buf u = if u = t then (s.buf t).tail else s.buf u := by
  unfold dr
  split
  · rename_i h; by_cases e : u = t
    · rw [if_pos e, e, h]; rfl
    · rw [if_neg e]
  · rename_i a r h
    show (if u = t then r else s.buf u) = _
    rw [h]; rfl
theorem dr_mem {s : A} {t u : Nat} {e : En} (h : e ∈ (s.dr t).buf u) : e ∈ s.buf u := by
  rw [dr_buf] at h
  split at h
  · rename_i e2; rw [e2]; exact List.mem_of_mem_tail h
  · exact h
theorem dra_buf : ∀ (k : Nat) (s : A) (t u : Nat), (s.dra t k).buf u = if u = t then (s.buf t).drop k else s.buf u
  | 0, s, t, u => by unfold dra; split; (rename_i h; rw [h, List.drop_zero]); rfl
  | k + 1, s, t, u => by
    unfold dra
    rw [dra_buf k, dr_buf, dr_buf]
    by_cases e : u = t
    · simp [e]
    · simp [e]
theorem dra_here : ∀ (k : Nat) (s : A) (t : Nat), (s.dra t k).here = s.here
  | 0, s, t => rfl
  | k + 1, s, t => by unfold dra; rw [dra_here k, dr_here]
theorem dra_reg : ∀ (k : Nat) (s : A) (t : Nat), (s.dra t k).reg = s.reg
  | 0, s, t => rfl
  | k + 1, s, t => by unfold dra; rw [dra_reg k, dr_reg]
theorem fn_buf (s : A) (t u : Nat) : (s.fn t).buf u = if u = t then [] else s.buf u := by
  unfold fn
  rw [dra_buf]
  simp
theorem fn_here (s : A) (t : Nat) : (s.fn t).here = s.here := dra_here _ _ _
theorem fn_reg (s : A) (t : Nat) : (s.fn t).reg = s.reg := dra_reg _ _ _
theorem fo_here (s : A) : ∀ k, (s.fo k).here = s.here
  | 0 => rfl
  | k + 1 => by unfold fo; rw [fn_here, fo_here s k]
theorem fo_buf (s : A) : ∀ k u, (s.fo k).buf u = if u < k then [] else s.buf u
  | 0, u => by simp [fo]
  | k + 1, u => by
    unfold fo
    rw [fn_buf, fo_buf s k]
    by_cases e : u = k
    · simp [e]
    · by_cases e2 : u < k
      · simp [e, e2, show u < k + 1 by omega]
      · simp [e, e2, show ¬ u < k + 1 by omega]
/-- What each drain keeps, fences keep. -/
theorem dra_keep {P : A → Prop} (h : ∀ s t, P s → P (s.dr t)) : ∀ (k : Nat) (s : A) (t : Nat), P s → P (s.dra t k)
  | 0, s, t, hp => hp
  | k + 1, s, t, hp => dra_keep h k _ t (h s t hp)
theorem fn_keep {P : A → Prop} (h : ∀ s t, P s → P (s.dr t)) (s : A) (t : Nat) (hp : P s) : P (s.fn t) := dra_keep h _ s t hp
theorem fo_keep {P : A → Prop} (h : ∀ s t, P s → P (s.dr t)) (s : A) (hp : P s) : ∀ k, P (s.fo k)
  | 0 => hp
  | k + 1 => fn_keep h _ k (fo_keep h s hp k)
theorem pre_keep {P : A → Prop} (h : ∀ s t, P s → P (s.dr t)) (s : A) (n t : Nat) (x : Instr) (hp : P s) : P (s.pre n t x) := by
  unfold pre
  split
  · split
    · exact h s t hp
    · exact hp
  · exact fn_keep h s t hp
  · exact fn_keep h s t hp
  · exact fn_keep h s t hp
  · exact fn_keep h s t hp
  · exact fo_keep h s hp n
  · exact hp
end A
variable {n t : Nat} {code : Nat → List Instr} {m : M} {c : Nat}
theorem WM.cong {m' : M} (W : WM n code m) (h1 : m'.T = m.T) (h2 : m'.waits.length = n) (h3 : ∀ c ∈ m'.cells, c.words.length = 4) (h4 : m'.cells.length = m.cells.length) (h5 : ∀ t, ∀ x ∈ m'.waitsOf t, WtOk x) : WM n code m' :=
  ⟨by rw [h1]; exact W.T, h2, fun t ht => by have := W.code t ht; unfold M.thr at this ⊢; rw [h1]; exact this, fun t ht => by have := W.regs t ht; unfold M.thr at this ⊢; rw [h1]; exact this, h3, by rw [h4]; exact W.cells, h5⟩
theorem set_words {l : List Cell} (hl : ∀ c ∈ l, c.words.length = 4) (k w : Nat) (v : Int) : ∀ c ∈ setWord l k w v, c.words.length = 4 := by
  intro c hc
  obtain ⟨i, hi⟩ := List.getElem?_of_mem hc
  unfold setWord at hi
  rw [List.getElem?_modify] at hi
  cases e : l[i]? with
  | none => rw [e] at hi; simp at hi
  | some y =>
    have hy := hl y (List.mem_of_getElem? e)
    rw [e] at hi
    by_cases e2 : k = i
    · subst e2; simp at hi; subst hi; simpa using hy
    · simp [e2] at hi; subst hi; exact hy
theorem waitsOf_set (m : M) (t u : Nat) (l : List Wt) (ht : t < m.waits.length) : M.waitsOf { m with waits := m.waits.set t l } u = if u = t then l else m.waitsOf u := by
  unfold M.waitsOf
  simp only [List.getD, List.getElem?_set]
  by_cases e : t = u
  · subst e; simp [ht]
  · rw [if_neg e, if_neg (fun h => e h.symm)]
theorem abs_drain (W : WM n code m) (ht : t < n) (hb : ∀ e ∈ (absM m).buf t, (absM m).here e.a = true) :
    absM (m.drain t).1 = (absM m).dr t ∧ (m.drain t).1.faults = m.faults ∧ WM n code (m.drain t).1 ∧ (m.drain t).1.T = m.T := by
  unfold M.drain
  cases e : m.waitsOf t with
  | nil =>
    refine ⟨?_, rfl, W, rfl⟩
    unfold A.dr
    rw [show (absM m).buf t = [] from by show (m.waitsOf t).map enOf = []; rw [e]; rfl]
  | cons x r =>
    have hok := W.wts t x (by rw [e]; simp)
    have hbuf : (absM m).buf t = enOf x :: r.map enOf := by show (m.waitsOf t).map enOf = _; rw [e]; rfl
    have hh := hb (enOf x) (by rw [hbuf]; simp)
    obtain ⟨c1, c2, c3, c4, c5⟩ := en_cel hok
    obtain ⟨_, _, y, y3, y4, y5⟩ := abs_here.1 hh
    have hin : hereIn m.cells x.c x.g = true := hereIn_iff.2 ⟨hok.1, y, by rw [← c1]; exact y3, y4, by rw [← c3]; exact y5⟩
    have hd : drain1 m.cells x = (setWord m.cells x.c.toNat x.w.toNat x.v, false) := by unfold drain1; rw [if_pos hin]
    simp only [hd]
    have hwl : t < m.waits.length := by rw [W.W]; exact ht
    have hw3 : x.w.toNat < 4 := by have := hok.2.2.2.2; omega
    refine ⟨?_, by simp, ?_, trivial⟩
    · have := abs_setWord (m := m) W.words hh (w := x.w.toNat) hw3 x.v (m.waits.set t r) m.T m.marks (m.faults + if false = true then 1 else 0)
      rw [c1] at this
      rw [this]
      unfold A.dr
      rw [hbuf]
      refine A_ext (fun _ => rfl) (fun _ _ => rfl) (fun u => ?_) (fun _ _ => rfl) (fun _ => rfl)
      show (M.waitsOf { m with waits := m.waits.set t r } u).map enOf = if u = t then r.map enOf else (m.waitsOf u).map enOf
      rw [waitsOf_set m t u r hwl]
      by_cases e2 : u = t
      · rw [if_pos e2, if_pos e2]
      · rw [if_neg e2, if_neg e2]
    · refine W.cong rfl (by simp [W.W]) (set_words W.words _ _ _) (by simp [setWord]) (fun u z hz => ?_)
      have hz' : z ∈ M.waitsOf { m with waits := m.waits.set t r } u := hz
      rw [waitsOf_set m t u r hwl] at hz'
      split at hz'
      · exact W.wts t z (by rw [e]; simp [hz'])
      · exact W.wts u z hz'
theorem fence_nil (m : M) (t : Nat) (h : m.waitsOf t = []) : m.fence t = m := by
  unfold M.fence
  rw [h]
  have : m.waits.set t [] = m.waits := by
    apply List.ext_getElem?
    intro i
    rw [List.getElem?_set]
    by_cases e : t = i
    · subst e
      unfold M.waitsOf at h
      by_cases hl : t < m.waits.length
      · simp only [if_true, hl]
        rw [List.getD, List.getElem?_eq_getElem hl] at h
        simp at h
        rw [List.getElem?_eq_getElem hl, h]
      · simp [hl]
    · rw [if_neg e]
  simp only [drainAll, this]
  simp
theorem fence_cons (m : M) (t : Nat) (x : Wt) (r : List Wt) (h : m.waitsOf t = x :: r) (ht : t < m.waits.length) : m.fence t = (m.drain t).1.fence t := by
  unfold M.fence M.drain
  rw [h]
  simp only [drainAll]
  have : M.waitsOf ⟨(drain1 m.cells x).1, m.waits.set t r, m.T, m.marks, m.faults + if (drain1 m.cells x).2 = true then 1 else 0⟩ t = r := by
    have := waitsOf_set m t t r ht
    rw [if_pos rfl] at this
    exact this
  rw [this]
  simp only [List.set_set]
  congr 1
  cases (drain1 m.cells x).2 <;> simp <;> omega
theorem abs_fence : ∀ (k : Nat) {m : M}, (m.waitsOf t).length = k → WM n code m → t < n → (∀ e ∈ (absM m).buf t, (absM m).here e.a = true) →
    absM (m.fence t) = (absM m).fn t ∧ (m.fence t).faults = m.faults ∧ WM n code (m.fence t) ∧ (m.fence t).T = m.T
  | 0, m, hk, W, ht, hb => by
    have h0 : m.waitsOf t = [] := List.length_eq_zero_iff.1 hk
    rw [fence_nil m t h0]
    refine ⟨?_, rfl, W, rfl⟩
    unfold A.fn
    rw [show (absM m).buf t = [] from by show (m.waitsOf t).map enOf = []; rw [h0]; rfl]
    rfl
  | k + 1, m, hk, W, ht, hb => by
    obtain ⟨x, r, hx⟩ : ∃ x r, m.waitsOf t = x :: r := by
      cases e : m.waitsOf t with
      | nil => rw [e] at hk; simp at hk
      | cons x r => exact ⟨x, r, rfl⟩
    have hwl : t < m.waits.length := by rw [W.W]; exact ht
    obtain ⟨h1, h2, h3, h4⟩ := abs_drain W ht hb
    have hw : (m.drain t).1.waitsOf t = r := by
      unfold M.drain
      rw [hx]
      have := waitsOf_set m t t r hwl
      rw [if_pos rfl] at this
      exact this
    have hlr : r.length = k := by rw [hx] at hk; simpa using hk
    obtain ⟨g1, g2, g3, g4⟩ := abs_fence k (m := (m.drain t).1) (by rw [hw, hlr]) h3 ht (fun e he => by
      rw [h1] at he ⊢
      rw [A.dr_here]
      exact hb e (A.dr_mem he))
    rw [fence_cons m t x r hx hwl]
    refine ⟨?_, by rw [g2, h2], g3, by rw [g4, h4]⟩
    rw [g1, h1]
    have hl : ((absM m).buf t).length = k + 1 := by show ((m.waitsOf t).map enOf).length = _; rw [List.length_map, hk]
    unfold A.fn
    rw [hl, A.dr_buf, if_pos rfl, List.length_tail, hl]
    rfl
theorem abs_force : ∀ (k : Nat), k ≤ n → WM n code m → (∀ u, ∀ e ∈ (absM m).buf u, (absM m).here e.a = true) →
    absM (m.force k) = (absM m).fo k ∧ (m.force k).faults = m.faults ∧ WM n code (m.force k) ∧ (m.force k).T = m.T
  | 0, _, W, _ => ⟨rfl, rfl, W, rfl⟩
  | k + 1, hk, W, hb => by
    obtain ⟨h1, h2, h3, h4⟩ := abs_force k (by omega) W hb
    obtain ⟨g1, g2, g3, g4⟩ := abs_fence (t := k) _ rfl h3 (by omega) (fun e he => by
      rw [h1] at he ⊢
      rw [A.fo_here]
      rw [A.fo_buf] at he
      split at he
      · simp at he
      · exact hb k e he)
    exact ⟨by show absM ((m.force k).fence k) = _; rw [g1, h1]; rfl, by show ((m.force k).fence k).faults = _; rw [g2, h2], g3, by show ((m.force k).fence k).T = _; rw [g4, h4]⟩
end Qg
end
/- An instruction of the plain machine, seen by addresses. -/
section
namespace Qg
open Qs
variable {n t : Nat} {code : Nat → List Instr} {m : M} {c : Nat}
theorem thr_mod (m : M) (f : Thr → Thr) (ht : t < m.T.length) (u : Nat) : M.thr { m with T := m.T.modify t f } u = if u = t then f (m.thr t) else m.thr u := by
  unfold M.thr
  simp only [List.getD, List.getElem?_modify]
  by_cases e : u = t
  · subst e
    simp [List.getElem?_eq_getElem ht]
  · have e' : ¬ t = u := fun h => e h.symm
    simp [e, e']
theorem abs_setReg (W : WM n code m) (ht : t < n) {a : Int} (ha : a.toNat < 8) (v : Int) :
    absM (m.setReg t a v) = (absM m).setR t a.toNat v ∧ (m.setReg t a v).faults = m.faults ∧ WM n code (m.setReg t a v) := by
  have hl : t < m.T.length := by rw [W.T]; exact ht
  have h8 := W.regs t ht
  have hthr := fun u => thr_mod m (fun h => { h with regs := h.regs.set a.toNat v }) hl u
  refine ⟨A_ext (fun _ => rfl) (fun _ _ => rfl) (fun _ => rfl) (fun u k => ?_) (fun u => ?_), rfl, ⟨by simp [M.setReg, W.T], W.W, fun u hu => ?_, fun u hu => ?_, W.words, W.cells, W.wts⟩⟩
  · show (M.thr { m with T := m.T.modify t _ } u).regs.getD k 0 = if u = t ∧ k = a.toNat then v else (m.thr u).regs.getD k 0
    rw [hthr]
    by_cases e : u = t
    · subst e
      rw [if_pos rfl]
      simp only [List.getD, List.getElem?_set, true_and]
      by_cases e2 : k = a.toNat
      · subst e2; rw [if_pos rfl, if_pos rfl, if_pos (by omega)]; rfl
      · rw [if_neg e2, if_neg (fun h => e2 h.symm)]
    · rw [if_neg e, if_neg (fun h => e h.1)]
  · show (M.thr { m with T := m.T.modify t _ } u).pc = (m.thr u).pc
    rw [hthr]
    by_cases e : u = t
    · subst e; rw [if_pos rfl]
    · rw [if_neg e]
  · show (M.thr { m with T := m.T.modify t _ } u).code = _
    rw [hthr]
    by_cases e : u = t
    · subst e; rw [if_pos rfl]; exact W.code u hu
    · rw [if_neg e]; exact W.code u hu
  · show (M.thr { m with T := m.T.modify t _ } u).regs.length = _
    rw [hthr]
    by_cases e : u = t
    · subst e; rw [if_pos rfl]; simp [h8]
    · rw [if_neg e]; exact W.regs u hu
theorem abs_setPc (W : WM n code m) (ht : t < n) (p : Nat) :
    absM (m.setPc t p) = (absM m).setP t p ∧ (m.setPc t p).faults = m.faults ∧ WM n code (m.setPc t p) := by
  have hl : t < m.T.length := by rw [W.T]; exact ht
  have hthr := fun u => thr_mod m (fun h => { h with pc := p }) hl u
  refine ⟨A_ext (fun _ => rfl) (fun _ _ => rfl) (fun _ => rfl) (fun u k => ?_) (fun u => ?_), rfl, ⟨by simp [M.setPc, W.T], W.W, fun u hu => ?_, fun u hu => ?_, W.words, W.cells, W.wts⟩⟩
  · show (M.thr { m with T := m.T.modify t _ } u).regs.getD k 0 = (m.thr u).regs.getD k 0
    rw [hthr]
    by_cases e : u = t
    · subst e; rw [if_pos rfl]
    · rw [if_neg e]
  · show (M.thr { m with T := m.T.modify t _ } u).pc = if u = t then p else (m.thr u).pc
    rw [hthr]
    by_cases e : u = t
    · subst e; rw [if_pos rfl, if_pos rfl]
    · rw [if_neg e, if_neg e]
  · show (M.thr { m with T := m.T.modify t _ } u).code = _
    rw [hthr]
    by_cases e : u = t
    · subst e; rw [if_pos rfl]; exact W.code u hu
    · rw [if_neg e]; exact W.code u hu
  · show (M.thr { m with T := m.T.modify t _ } u).regs.length = _
    rw [hthr]
    by_cases e : u = t
    · subst e; rw [if_pos rfl]; exact W.regs u hu
    · rw [if_neg e]; exact W.regs u hu
/-- A word written where a cell is. -/
theorem abs_write (W : WM n code m) {x : Int} (h : (absM m).here x = true) {w : Nat} (hw : w < 4) (v : Int) :
    absM { m with cells := setWord m.cells (celOf x) w v } = (absM m).put ⟨x, w, v⟩ ∧ WM n code { m with cells := setWord m.cells (celOf x) w v } :=
  ⟨abs_setWord W.words h hw v m.waits m.T m.marks m.faults, W.cong rfl W.W (set_words W.words _ _ _) (by simp [setWord]) W.wts⟩
theorem waitsOf_mod (m : M) (t u : Nat) (f : List Wt → List Wt) (ht : t < m.waits.length) : M.waitsOf { m with waits := m.waits.modify t f } u = if u = t then f (m.waitsOf t) else m.waitsOf u := by
  unfold M.waitsOf
  simp only [List.getD, List.getElem?_modify]
  by_cases e : u = t
  · subst e; simp [List.getElem?_eq_getElem ht]
  · have e' : ¬ t = u := fun h => e h.symm
    simp [e, e']
theorem wt_of_here {x : Int} (h : (absM m).here x = true) {C v : Int} (hC : 0 ≤ C ∧ C < 4) : WtOk ⟨(x - 1) % 64, (x - 1) / 64, C, v⟩ ∧ enOf ⟨(x - 1) % 64, (x - 1) / 64, C, v⟩ = ⟨x, C.toNat, v⟩ := by
  obtain ⟨h1, h2, _⟩ := abs_here.1 h
  refine ⟨⟨?_, ?_, ?_, ?_, ?_, ?_⟩, ?_⟩
  all_goals try (simp only; omega)
  unfold enOf
  simp only [En.mk.injEq, and_self, and_true]
  omega
theorem abs_push (W : WM n code m) (ht : t < n) {x C : Int} (h : (absM m).here x = true) (hC : 0 ≤ C ∧ C < 4) (v : Int) :
    absM { m with waits := m.waits.modify t fun l => l ++ [⟨(x - 1) % 64, (x - 1) / 64, C, v⟩] } = (absM m).setB t ((absM m).buf t ++ [⟨x, C.toNat, v⟩]) ∧ WM n code { m with waits := m.waits.modify t fun l => l ++ [⟨(x - 1) % 64, (x - 1) / 64, C, v⟩] } := by
  obtain ⟨h1, h2⟩ := wt_of_here h (v := v) hC
  have hl : t < m.waits.length := by rw [W.W]; exact ht
  have hw := fun u => waitsOf_mod m t u (fun l => l ++ [⟨(x - 1) % 64, (x - 1) / 64, C, v⟩]) hl
  refine ⟨A_ext (fun _ => rfl) (fun _ _ => rfl) (fun u => ?_) (fun _ _ => rfl) (fun _ => rfl), W.cong rfl (by simp [W.W]) W.words rfl (fun u z hz => ?_)⟩
  · show (M.waitsOf _ u).map enOf = if u = t then (m.waitsOf t).map enOf ++ [⟨x, C.toNat, v⟩] else (m.waitsOf u).map enOf
    rw [hw]
    by_cases e : u = t
    · rw [if_pos e, if_pos e, List.map_append, List.map_singleton, h2]
    · rw [if_neg e, if_neg e]
  · rw [hw] at hz
    split at hz
    · rcases List.mem_append.1 hz with h | h
      · exact W.wts t z h
      · rw [List.mem_singleton.1 h]; exact h1
    · exact W.wts u z hz
theorem abs_free (W : WM n code m) {x : Int} (h : (absM m).here x = true) :
    absM { m with cells := m.cells.modify (celOf x) fun y => { y with here := false } } = (absM m).free x ∧ WM n code { m with cells := m.cells.modify (celOf x) fun y => { y with here := false } } := by
  obtain ⟨x1, x2, y, x3, x4, x5⟩ := abs_here.1 h
  have hn : ∀ z, ((absM { m with cells := m.cells.modify (celOf x) fun y => { y with here := false } }).here z = true) ↔ ((absM m).here z = true ∧ z ≠ x) := fun z => by
    rw [abs_here, abs_here]
    simp only [List.getElem?_modify]
    constructor
    · rintro ⟨a, b, u, c, d, e⟩
      by_cases e2 : celOf x = celOf z
      · rw [← e2, x3] at c; simp [e2] at c; subst c; simp at d
      · cases e3 : m.cells[celOf z]? with
        | none => rw [e3] at c; simp at c
        | some q => rw [e3] at c; simp [e2] at c; subst c; exact ⟨⟨a, b, q, rfl, d, e⟩, fun h => e2 (by rw [h])⟩
    · rintro ⟨⟨a, b, u, c, d, e⟩, hne⟩
      refine ⟨a, b, u, ?_, d, e⟩
      have : celOf x ≠ celOf z := fun h' => hne (here_inj (abs_here.2 ⟨a, b, u, c, d, e⟩) h h'.symm)
      rw [c]; simp [this]
  refine ⟨A_ext (fun z => ?_) (fun z u => ?_) (fun _ => rfl) (fun _ _ => rfl) (fun _ => rfl), W.cong rfl W.W (fun c hc => ?_) (by simp) W.wts⟩
  · have := hn z
    show (absM _).here z = if z = x then false else (absM m).here z
    by_cases e : z = x
    · subst e
      rw [if_pos rfl]
      cases hb : (absM { m with cells := m.cells.modify (celOf z) fun y => { y with here := false } }).here z with
      | false => rfl
      | true => exact absurd rfl (this.1 hb).2
    · rw [if_neg e, Bool.eq_iff_iff, this]
      exact ⟨fun h => h.1, fun h => ⟨h, e⟩⟩
  · show (absM _).val z u = if z = x then 0 else (absM m).val z u
    by_cases e : z = x
    · subst e
      rw [if_pos rfl, abs_val0 (fun h' => ((hn z).1 h').2 rfl)]
    · rw [if_neg e]
      by_cases hz : (absM m).here z = true
      · rw [abs_val ((hn z).2 ⟨hz, e⟩), abs_val hz]
        unfold getWord
        simp only [List.getElem?_modify]
        have : celOf x ≠ celOf z := fun h' => e (here_inj hz h h'.symm)
        cases m.cells[celOf z]? <;> simp [this]
      · rw [abs_val0 hz, abs_val0 (fun h' => hz ((hn z).1 h').1)]
  · obtain ⟨i, hi⟩ := List.getElem?_of_mem hc
    rw [List.getElem?_modify] at hi
    cases e : m.cells[i]? with
    | none => rw [e] at hi; simp at hi
    | some q =>
      have hq := W.words q (List.mem_of_getElem? e)
      rw [e] at hi
      by_cases e2 : celOf x = i
      · simp [e2] at hi; subst hi; exact hq
      · simp [e2] at hi; subst hi; exact hq
def rgB (n k : Int) : Bool := decide (0 ≤ n) && decide (n < k)
/-- The numbers of an instruction are such as it takes. -/
def insP (x : Instr) : Bool := rgB x.A 8 && (x.op == 0 || rgB x.B 8) && rgB x.C 8 && (!(decide (6 ≤ x.op) && decide (x.op ≤ 9)) || rgB x.C 4) && (!(x.op == 9) || rgB x.B 7)
structure InsP (x : Instr) : Prop where
  A : x.A.toNat < 8
  C : 6 ≤ x.op → x.op ≤ 9 → 0 ≤ x.C ∧ x.C < 4
  B : x.op ≠ 0 → x.B.toNat < 8
  B0 : x.op ≠ 0 → 0 ≤ x.B
theorem insP_of {x : Instr} (h : insP x = true) : InsP x := by
  unfold insP rgB at h
  simp only [Bool.and_eq_true, decide_eq_true_eq, Bool.or_eq_true, Bool.not_eq_true', beq_iff_eq] at h
  obtain ⟨⟨⟨⟨h1, h2⟩, h3⟩, h4⟩, h5⟩ := h
  refine ⟨by omega, fun a b => ?_, fun a => ?_, fun a => ?_⟩
  · rcases h4 with h4 | h4
    · simp [a, b] at h4
    · exact h4
  · rcases h2 with h2 | h2
    · exact absurd h2 a
    · omega
  · rcases h2 with h2 | h2
    · exact absurd h2 a
    · omega
/-- What a step of a thread makes of it: all but alloc, mark. -/
theorem abs_exec (W : WM n code m) (ht : t < n) {x : Instr} (fx : InsP x) (R : (absM m).Req t x) (hb : ∀ u, ∀ e ∈ (absM m).buf u, (absM m).here e.a = true) {tg : Nat} (htg : 14 ≤ x.op → x.op ≤ 16 → labelAt x.to (code t) 0 = some tg) :
    absM (m.exec t x) = ((absM m).pre n t x).ex t x tg ∧ (m.exec t x).faults = m.faults ∧ WM n code (m.exec t x) := by
  obtain ⟨op, xa, xb, xc, to⟩ := x
  obtain ⟨hA, hC, hB, hB0⟩ := fx
  simp only at hA hC hB hB0 htg
  have hthr := W.code t ht
  match op, hC, hB, hB0, htg, R with
  | 0, hC, hB, hB0, htg, R => exact abs_setReg W ht hA xb
  | 1, hC, hB, hB0, htg, R => exact abs_setReg W ht hA _
  | 2, hC, hB, hB0, htg, R => exact abs_setReg W ht hA _
  | 3, hC, hB, hB0, htg, R => exact abs_setReg W ht hA _
  | 4, hC, hB, hB0, htg, R => exact abs_setReg W ht hA _
  | 5, hC, hB, hB0, htg, R => exact abs_setReg W ht hA _
  | 6, hC, hB, hB0, htg, R =>
    have R : (absM m).here ((absM m).reg t xb.toNat) = true := R
    have e := abs_names R
    have hc := hC (by omega) (by omega)
    unfold M.exec
    simp only [Thr.reg]
    rw [show (m.thr t).regs.getD xb.toNat 0 = (absM m).reg t xb.toNat from rfl, e]
    simp only
    have hv : look (m.waitsOf t) (((absM m).reg t xb.toNat - 1) % 64) (((absM m).reg t xb.toNat - 1) / 64) xc (getWord m.cells (((absM m).reg t xb.toNat - 1) % 64).toNat xc.toNat) = (absM m).vw t ((absM m).reg t xb.toNat) xc.toNat := by
      rw [look_lk _ (W.wts t) _ (abs_here.1 R).1 _ hc.1]
      unfold A.vw
      rw [abs_val R]
      rfl
    rw [hv]
    exact abs_setReg W ht hA _
  | 7, hC, hB, hB0, htg, R =>
    have R : (absM m).here ((absM m).reg t xa.toNat) = true := R
    have e := abs_names R
    have hc := hC (by omega) (by omega)
    unfold M.exec
    simp only [Thr.reg]
    rw [show (m.thr t).regs.getD xa.toNat 0 = (absM m).reg t xa.toNat from rfl, show (m.thr t).regs.getD xb.toNat 0 = (absM m).reg t xb.toNat from rfl, e]
    simp only
    have hlen : ((absM m).buf t).length = (m.waitsOf t).length := by show ((m.waitsOf t).map enOf).length = _; rw [List.length_map]
    unfold A.pre A.ex
    simp only
    rw [hlen]
    by_cases h8 : (m.waitsOf t).length ≥ 8
    · rw [if_pos h8, if_pos h8]
      obtain ⟨d1, d2, d3, d4⟩ := abs_drain W ht (hb t)
      have hr : (absM (m.drain t).1).here ((absM m).reg t xa.toNat) = true := by rw [d1, A.dr_here]; exact R
      obtain ⟨p1, p2⟩ := abs_push d3 ht hr hc ((absM m).reg t xb.toNat)
      refine ⟨?_, d2, p2⟩
      rw [p1, d1, A.dr_reg]
    · rw [if_neg h8, if_neg h8]
      obtain ⟨p1, p2⟩ := abs_push W ht R hc ((absM m).reg t xb.toNat)
      exact ⟨p1, rfl, p2⟩
  | 8, hC, hB, hB0, htg, R =>
    have R : (absM m).here ((absM m).reg t xb.toNat) = true := R
    have e := abs_names R
    have hc := hC (by omega) (by omega)
    unfold M.exec
    simp only [Thr.reg]
    rw [show (m.thr t).regs.getD xa.toNat 0 = (absM m).reg t xa.toNat from rfl, show (m.thr t).regs.getD xb.toNat 0 = (absM m).reg t xb.toNat from rfl, e]
    simp only
    obtain ⟨d1, d2, d3, d4⟩ := abs_fence _ rfl W ht (hb t)
    have hr : (absM (m.fence t)).here ((absM m).reg t xb.toNat) = true := by rw [d1, A.fn_here]; exact R
    obtain ⟨p1, p2⟩ := abs_write d3 hr (w := xc.toNat) (by omega) ((absM m).reg t xa.toNat)
    obtain ⟨q1, q2, q3⟩ := abs_setReg p2 ht hA (getWord (m.fence t).cells (celOf ((absM m).reg t xb.toNat)) xc.toNat)
    refine ⟨?_, by rw [← d2]; exact q2, q3⟩
    show absM (M.setReg { m.fence t with cells := setWord (m.fence t).cells (celOf ((absM m).reg t xb.toNat)) xc.toNat ((absM m).reg t xa.toNat) } t xa (getWord (m.fence t).cells (celOf ((absM m).reg t xb.toNat)) xc.toNat)) = _
    rw [q1, p1, ← abs_val hr, d1]
    unfold A.pre A.ex
    simp only [A.fn_reg]
  | 9, hC, hB, hB0, htg, R =>
    have R : (absM m).here ((absM m).reg t xa.toNat) = true := R
    have e := abs_names R
    have hc := hC (by omega) (by omega)
    unfold M.exec
    simp only [Thr.reg]
    simp only [show ∀ k, (m.thr t).regs.getD k 0 = (absM m).reg t k from fun _ => rfl, e]
    obtain ⟨d1, d2, d3, d4⟩ := abs_fence _ rfl W ht (hb t)
    have hr : (absM (m.fence t)).here ((absM m).reg t xa.toNat) = true := by rw [d1, A.fn_here]; exact R
    obtain ⟨p1, p2⟩ := abs_write d3 hr (w := xc.toNat) (by omega) ((absM m).reg t (xb + 1).toNat)
    have hv : getWord (m.fence t).cells (((absM m).reg t xa.toNat - 1) % 64).toNat xc.toNat = ((absM m).fn t).val ((absM m).reg t xa.toNat) xc.toNat := by
      rw [← d1]; exact (abs_val hr _).symm
    rw [hv]
    unfold A.pre A.ex
    simp only [A.fn_reg]
    by_cases h9 : ((absM m).fn t).val ((absM m).reg t xa.toNat) xc.toNat = (absM m).reg t xb.toNat
    · rw [if_pos h9, if_pos h9]
      obtain ⟨q1, q2, q3⟩ := abs_setReg p2 ht (a := xb) (hB (by omega)) (((absM m).fn t).val ((absM m).reg t xa.toNat) xc.toNat)
      refine ⟨?_, by rw [← d2]; exact q2, q3⟩
      show absM (M.setReg { m.fence t with cells := setWord (m.fence t).cells (celOf ((absM m).reg t xa.toNat)) xc.toNat ((absM m).reg t (xb + 1).toNat) } t xb _) = _
      rw [q1, p1, d1]
    · rw [if_neg h9, if_neg h9]
      obtain ⟨q1, q2, q3⟩ := abs_setReg d3 ht (a := xb) (hB (by omega)) (((absM m).fn t).val ((absM m).reg t xa.toNat) xc.toNat)
      refine ⟨?_, by rw [← d2]; exact q2, q3⟩
      rw [q1, d1]
  | 10, hC, hB, hB0, htg, R => exact absurd R (fun h => h)
  | 11, hC, hB, hB0, htg, R =>
    have R : (absM m).here ((absM m).reg t xa.toNat) = true := R
    have e := abs_names R
    unfold M.exec
    simp only [Thr.reg]
    rw [show (m.thr t).regs.getD xa.toNat 0 = (absM m).reg t xa.toNat from rfl, e]
    simp only
    obtain ⟨d1, d2, d3, d4⟩ := abs_fence _ rfl W ht (hb t)
    have hr : (absM (m.fence t)).here ((absM m).reg t xa.toNat) = true := by rw [d1, A.fn_here]; exact R
    obtain ⟨p1, p2⟩ := abs_free d3 hr
    refine ⟨?_, d2, p2⟩
    show absM { m.fence t with cells := (m.fence t).cells.modify (celOf ((absM m).reg t xa.toNat)) fun y => { y with here := false } } = _
    rw [p1, d1]
    unfold A.pre A.ex
    simp only [A.fn_reg]
  | 12, hC, hB, hB0, htg, R =>
    obtain ⟨d1, d2, d3, d4⟩ := abs_fence _ rfl W ht (hb t)
    exact ⟨d1, d2, d3⟩
  | 13, hC, hB, hB0, htg, R =>
    obtain ⟨d1, d2, d3, d4⟩ := abs_force n (Nat.le_refl _) W hb
    show absM (m.force m.T.length) = _ ∧ (m.force m.T.length).faults = _ ∧ WM n code (m.force m.T.length)
    rw [W.T]
    exact ⟨d1, d2, d3⟩
  | 14, hC, hB, hB0, htg, R =>
    have h := htg (by omega) (by omega)
    have hp := abs_setPc W ht tg
    unfold M.exec
    simp only [Thr.reg, M.jump, hthr, h, Option.getD_some]
    unfold A.pre A.ex
    simp only
    rw [show (m.thr t).regs.getD xa.toNat 0 = (absM m).reg t xa.toNat from rfl]
    by_cases h0 : (absM m).reg t xa.toNat = 0
    · rw [if_pos h0, if_pos h0]; exact hp
    · rw [if_neg h0, if_neg h0]; exact ⟨rfl, rfl, W⟩
  | 15, hC, hB, hB0, htg, R =>
    have h := htg (by omega) (by omega)
    have hp := abs_setPc W ht tg
    unfold M.exec
    simp only [Thr.reg, M.jump, hthr, h, Option.getD_some]
    unfold A.pre A.ex
    simp only
    rw [show (m.thr t).regs.getD xa.toNat 0 = (absM m).reg t xa.toNat from rfl, show (m.thr t).regs.getD xb.toNat 0 = (absM m).reg t xb.toNat from rfl]
    by_cases h0 : (absM m).reg t xa.toNat = (absM m).reg t xb.toNat
    · rw [if_pos h0, if_pos h0]; exact hp
    · rw [if_neg h0, if_neg h0]; exact ⟨rfl, rfl, W⟩
  | 16, hC, hB, hB0, htg, R =>
    have h := htg (by omega) (by omega)
    have hp := abs_setPc W ht tg
    unfold M.exec
    simp only [Thr.reg, M.jump, hthr, h, Option.getD_some]
    exact hp
  | 17, hC, hB, hB0, htg, R => exact ⟨rfl, rfl, W⟩
  | 18, hC, hB, hB0, htg, R => exact absurd R (fun h => h)
  | 19, hC, hB, hB0, htg, R =>
    have R : ¬ (absM m).reg t xa.toNat = 0 := R
    unfold M.exec
    simp only [Thr.reg]
    simp only [show ∀ k, (m.thr t).regs.getD k 0 = (absM m).reg t k from fun _ => rfl, if_neg R]
    exact ⟨rfl, trivial, W⟩
  | 20, hC, hB, hB0, htg, R => exact absurd R (fun h => h)
  | k + 21, hC, hB, hB0, htg, R => exact ⟨rfl, rfl, W⟩
end Qg
end
/- A cell given, seen by addresses; how often cells were given. -/
section
namespace Qg
open Qs
variable {n t : Nat} {code : Nat → List Instr} {m : M} {c : Nat}
def tms (m : M) : List Int := m.cells.map (·.times)
theorem tms_mod (l : List Cell) (c : Nat) (f : Cell → Cell) (hf : ∀ x, (f x).times = x.times) : (l.modify c f).map (·.times) = l.map (·.times) := by
  apply List.ext_getElem?
  intro i
  rw [List.getElem?_map, List.getElem?_map, List.getElem?_modify]
  cases l[i]? with
  | none => rfl
  | some x => by_cases e : c = i <;> simp [e, hf]
theorem tms_set (l : List Cell) (c w : Nat) (v : Int) : (setWord l c w v).map (·.times) = l.map (·.times) := tms_mod l c _ fun _ => rfl
theorem tms_drain1 (l : List Cell) (x : Wt) : (drain1 l x).1.map (·.times) = l.map (·.times) := by
  unfold drain1
  split
  · exact tms_set _ _ _ _
  · rfl
theorem tms_drainAll : ∀ (r : List Wt) (l : List Cell), (drainAll l r).1.map (·.times) = l.map (·.times)
  | [], l => rfl
  | x :: r, l => by
    show (drainAll (drain1 l x).1 r).1.map _ = _
    rw [tms_drainAll r, tms_drain1]
theorem tms_fence (m : M) (t : Nat) : tms (m.fence t) = tms m := tms_drainAll _ _
theorem tms_force (m : M) : ∀ k, tms (m.force k) = tms m
  | 0 => rfl
  | k + 1 => by show tms ((m.force k).fence k) = _; rw [tms_fence, tms_force m k]
theorem tms_drain (m : M) (t : Nat) : tms (m.drain t).1 = tms m := by
  unfold M.drain
  split
  · rfl
  · exact tms_drain1 _ _
theorem tms_exec (m : M) (t : Nat) (x : Instr) (h : x.op ≠ 10) : tms (m.exec t x) = tms m := by
  have hf := tms_fence m t
  unfold M.exec
  simp only
  split
  all_goals first
    | rfl
    | (exfalso; apply h; assumption)
    | (split <;> first
        | rfl
        | exact hf
        | (show (setWord _ _ _ _).map _ = _; rw [tms_set]; exact hf)
        | exact (tms_mod (m.fence t).cells _ (fun y => { y with here := false }) (fun _ => rfl)).trans hf
        | (split <;> first | rfl | exact tms_drain m t | exact hf | (show (setWord _ _ _ _).map _ = _; rw [tms_set]; exact hf))
        | (show tms (if _ then (m.drain t).1 else m) = _; split <;> first | rfl | exact tms_drain m t))
    | exact hf
    | exact tms_force m _
theorem allocAt_none : ∀ (l : List Cell) (i : Nat), allocAt l i = none → ∀ c ∈ l, c.here = true
  | [], _, _, c, hc => by simp at hc
  | x :: r, i, h, c, hc => by
    unfold allocAt at h
    split at h
    · rename_i hx
      rcases List.mem_cons.1 hc with rfl | h2
      · exact hx
      · exact allocAt_none r _ h c h2
    · cases h
theorem allocAt_some : ∀ (l : List Cell) (i : Nat) {k : Nat} {n : Int}, allocAt l i = some (k, n) → i ≤ k ∧ ∃ y, l[k - i]? = some y ∧ y.here = false ∧ y.times = n
  | [], _, _, _, h => by cases h
  | x :: r, i, k, n, h => by
    unfold allocAt at h
    split at h
    · obtain ⟨h1, y, h2, h3, h4⟩ := allocAt_some r _ h
      refine ⟨by omega, y, ?_, h3, h4⟩
      rw [show k - i = (k - (i + 1)) + 1 from by omega]
      exact h2
    · rename_i hx
      simp only [Option.some.injEq, Prod.mk.injEq] at h
      obtain ⟨rfl, rfl⟩ := h
      refine ⟨Nat.le_refl _, x, by simp, by simpa using hx, rfl⟩
def HokL (l : List Cell) : Prop := ∀ c ∈ l, c.here = true → 1 ≤ c.times
theorem hok_mod {l : List Cell} (h : HokL l) (c : Nat) (f : Cell → Cell) (hf : ∀ x, (f x).here = true → x.here = true ∧ (f x).times = x.times) : HokL (l.modify c f) := by
  intro y hy
  obtain ⟨i, hi⟩ := List.getElem?_of_mem hy
  rw [List.getElem?_modify] at hi
  cases e : l[i]? with
  | none => rw [e] at hi; simp at hi
  | some q =>
    have hq := h q (List.mem_of_getElem? e)
    rw [e] at hi
    by_cases e2 : c = i
    · simp [e2] at hi; subst hi; intro hh; rw [(hf q hh).2]; exact hq (hf q hh).1
    · simp [e2] at hi; subst hi; exact hq
theorem hok_set {l : List Cell} (h : HokL l) (c w : Nat) (v : Int) : HokL (setWord l c w v) := hok_mod h c _ fun _ hh => ⟨hh, rfl⟩
theorem hok_drain1 {l : List Cell} (h : HokL l) (x : Wt) : HokL (drain1 l x).1 := by
  unfold drain1
  split
  · exact hok_set h _ _ _
  · exact h
theorem hok_drainAll : ∀ (r : List Wt) {l : List Cell}, HokL l → HokL (drainAll l r).1
  | [], l, h => h
  | x :: r, l, h => hok_drainAll r (hok_drain1 h x)
theorem hok_fence (m : M) (t : Nat) (h : HokL m.cells) : HokL (m.fence t).cells := hok_drainAll _ h
theorem hok_force (m : M) (h : HokL m.cells) : ∀ k, HokL (m.force k).cells
  | 0 => h
  | k + 1 => hok_fence (m.force k) k (hok_force m h k)
theorem hok_drain (m : M) (t : Nat) (h : HokL m.cells) : HokL (m.drain t).1.cells := by
  unfold M.drain
  split
  · exact h
  · exact hok_drain1 h _
theorem hok_exec (m : M) (t : Nat) (x : Instr) (hN : ∀ v ∈ tms m, 0 ≤ v) (h : HokL m.cells) : HokL (m.exec t x).cells := by
  have hf := hok_fence m t h
  unfold M.exec
  simp only
  split
  all_goals first
    | exact h
    | (split <;> first
        | exact h
        | exact hf
        | exact hok_set hf _ _ _
        | exact hok_mod hf _ _ (fun _ hh => by simp at hh)
        | (split <;> first | exact h | exact hok_drain m t h | exact hf | exact hok_set hf _ _ _)
        | (show HokL (M.cells (if _ then (m.drain t).1 else m)); split <;> first | exact h | exact hok_drain m t h)
        | (rename_i i n e
           intro c hc
           have hc' : c ∈ m.cells.set i ⟨[0, 0, 0, 0], n + 1, true⟩ := hc
           rcases List.mem_or_eq_of_mem_set hc' with h1 | h1
           · exact h c h1
           · intro _
             obtain ⟨_, y, hy, _, hyt⟩ := allocAt_some _ _ e
             have := hN n (by rw [← hyt]; exact List.mem_map.2 ⟨y, List.mem_of_getElem? hy, rfl⟩)
             rw [h1]; simp only; omega))
    | exact hf
    | exact hok_force m h _
/-- A cell given: its address is none that was there. -/
theorem abs_alloc (W : WM n code m) (ht : t < n) {xa : Int} (hA : xa.toNat < 8) (hf : ∃ c ∈ m.cells, c.here = false) {N : Int} (hN : ∀ v ∈ tms m, 0 ≤ v ∧ v ≤ N) (hN2 : N < 60000000) (B C : Int) (to : List UInt8) :
    ∃ na, 0 < na ∧ (absM m).here na = false ∧ absM (m.exec t ⟨10, xa, B, C, to⟩) = ((absM m).give na).setR t xa.toNat na ∧ (m.exec t ⟨10, xa, B, C, to⟩).faults = m.faults ∧ WM n code (m.exec t ⟨10, xa, B, C, to⟩) ∧ (∀ v ∈ tms (m.exec t ⟨10, xa, B, C, to⟩), 0 ≤ v ∧ v ≤ N + 1) ∧ (m.exec t ⟨10, xa, B, C, to⟩).cells.length = m.cells.length := by
  cases e : allocAt m.cells 0 with
  | none =>
    obtain ⟨c, hc, hc2⟩ := hf
    rw [allocAt_none _ _ e c hc] at hc2; cases hc2
  | some p =>
    obtain ⟨k, g⟩ := p
    obtain ⟨_, y, hy, hyh, hyt⟩ := allocAt_some _ _ e
    rw [Nat.sub_zero] at hy
    have hk : k < m.cells.length := (List.getElem?_eq_some_iff.1 hy).1
    have hk64 : k < 64 := by have := W.cells; omega
    have hg := hN g (by rw [← hyt]; exact List.mem_map.2 ⟨y, List.mem_of_getElem? hy, rfl⟩)
    have hw : wordOf (k : Int) g = g * 64 + k + 1 := by
      unfold wordOf isWord
      rw [if_pos ⟨by omega, by omega, by omega, by omega, by simp [W32]; omega⟩]
    obtain ⟨na, hna⟩ : ∃ na, na = g * 64 + (k : Int) + 1 := ⟨_, rfl⟩
    have hcel : celOf na = k := by unfold celOf; omega
    have hgen : (na - 1) / 64 = g := by omega
    have hnh : (absM m).here na = false := by
      cases hb : (absM m).here na with
      | false => rfl
      | true =>
        obtain ⟨_, _, u, hu, hu2, _⟩ := abs_here.1 hb
        rw [hcel, hy] at hu; cases hu; rw [hyh] at hu2; cases hu2
    have W' : WM n code { m with cells := m.cells.set k ⟨[0, 0, 0, 0], g + 1, true⟩ } := W.cong rfl W.W (fun c hc => by
      rcases List.mem_or_eq_of_mem_set hc with h | h
      · exact W.words c h
      · rw [h]; rfl) (by simp) W.wts
    have hh : ∀ z, (absM { m with cells := m.cells.set k ⟨[0, 0, 0, 0], g + 1, true⟩ }).here z = true ↔ (z = na ∨ (absM m).here z = true) := fun z => by
      rw [abs_here, abs_here]
      simp only [List.getElem?_set]
      constructor
      · rintro ⟨a, b, u, c, d, f⟩
        by_cases e2 : k = celOf z
        · rw [if_pos e2, if_pos hk] at c
          cases c
          left
          unfold celOf at e2
          simp only at f
          omega
        · rw [if_neg e2] at c
          exact .inr ⟨a, b, u, c, d, f⟩
      · rintro (rfl | ⟨a, b, u, c, d, f⟩)
        · refine ⟨by omega, by omega, ⟨[0, 0, 0, 0], g + 1, true⟩, ?_, rfl, by simp only; omega⟩
          rw [if_pos hcel.symm, if_pos hk]
        · refine ⟨a, b, u, ?_, d, f⟩
          have : k ≠ celOf z := fun h => by rw [← h, hy] at c; cases c; rw [hyh] at d; cases d
          rw [if_neg this, c]
    have hex : m.exec t ⟨10, xa, B, C, to⟩ = M.setReg { m with cells := m.cells.set k ⟨[0, 0, 0, 0], g + 1, true⟩ } t xa (wordOf (k : Int) g) := by
      unfold M.exec
      simp only [e]
    obtain ⟨q1, q2, q3⟩ := abs_setReg W' ht hA (wordOf (k : Int) g)
    refine ⟨na, by omega, hnh, ?_, by rw [hex, q2], by rw [hex]; exact q3, fun v hv => ?_, by rw [hex]; show (m.cells.set _ _).length = _; simp⟩
    · rw [hex, q1, hw, ← hna]
      congr 1
      refine A_ext (fun z => ?_) (fun z w => ?_) (fun _ => rfl) (fun _ _ => rfl) (fun _ => rfl)
      · show _ = if z = na then true else (absM m).here z
        by_cases e2 : z = na
        · rw [if_pos e2]; exact (hh z).2 (.inl e2)
        · rw [if_neg e2, Bool.eq_iff_iff, hh]
          exact ⟨fun h => h.resolve_left e2, .inr⟩
      · show _ = if z = na then 0 else (absM m).val z w
        by_cases e2 : z = na
        · rw [if_pos e2, abs_val ((hh z).2 (.inl e2)), e2]
          unfold getWord
          rw [hcel]
          simp only [List.getElem?_set, if_true, if_pos hk, Option.map_some, Option.getD_some]
          match w with
          | 0 => rfl
          | 1 => rfl
          | 2 => rfl
          | 3 => rfl
          | w + 4 => rfl
        · rw [if_neg e2]
          by_cases hz : (absM m).here z = true
          · rw [abs_val ((hh z).2 (.inr hz)), abs_val hz]
            unfold getWord
            have : k ≠ celOf z := fun h => by
              obtain ⟨_, _, u, hu, hu2, _⟩ := abs_here.1 hz
              rw [← h, hy] at hu; cases hu; rw [hyh] at hu2; cases hu2
            simp only [List.getElem?_set, if_neg this]
          · rw [abs_val0 hz, abs_val0 (fun h => hz (((hh z).1 h).resolve_left e2))]
    · rw [hex] at hv
      have hv' : v ∈ (m.cells.set k ⟨[0, 0, 0, 0], g + 1, true⟩).map (·.times) := hv
      obtain ⟨c, hc, rfl⟩ := List.mem_map.1 hv'
      rcases List.mem_or_eq_of_mem_set hc with h | h
      · have := hN c.times (List.mem_map.2 ⟨c, h, rfl⟩); omega
      · rw [h]; simp only; omega
/-- All cells are there: as many addresses are. -/
theorem pigeon : ∀ (k : Nat) (l : List Nat), (∀ i, i < k → i ∈ l) → k ≤ l.length
  | 0, _, _ => Nat.zero_le _
  | k + 1, l, h => by
    have hk : k ∈ l := h k (by omega)
    have := pigeon k (l.erase k) fun i hi => (List.mem_erase_of_ne (by omega)).2 (h i (by omega))
    have hl := List.length_erase_of_mem hk
    have : 0 < l.length := List.length_pos_of_mem hk
    omega
theorem free_cell {l : List Int} (h : ∀ x, (absM m).here x = true → x ∈ l) (hl : l.length < m.cells.length) (hw : HokL m.cells) (hw2 : ∀ c ∈ m.cells, c.times < 60000000) (h64 : m.cells.length ≤ 64) : ∃ c ∈ m.cells, c.here = false := by
  refine Classical.byContradiction fun hno => ?_
  have hall : ∀ c ∈ m.cells, c.here = true := fun c hc => by
    cases e : c.here with
    | true => rfl
    | false => exact absurd ⟨c, hc, e⟩ hno
  have := pigeon m.cells.length (l.map celOf) fun i hi => by
    obtain ⟨y, hy⟩ : ∃ y, m.cells[i]? = some y := ⟨_, List.getElem?_eq_getElem hi⟩
    have hm := List.mem_of_getElem? hy
    have h1 := hall y hm
    have h2 := hw y hm h1
    have h3 := hw2 y hm
    refine List.mem_map.2 ⟨(y.times - 1) * 64 + i + 1, h _ (abs_here.2 ⟨by omega, by omega, y, ?_, h1, by omega⟩), by unfold celOf; omega⟩
    have : celOf ((y.times - 1) * 64 + i + 1) = i := by unfold celOf; omega
    rw [this, hy]
  rw [List.length_map] at this
  omega
end Qg
end
/- The queue on the plain machine: code of ops, places, what stands at each place. -/
section
namespace Qu
open Qs Qg
inductive Op where
  | put (n : Int)
  | take
/-- Code of an op: its labels are e, and p with an ending. -/
def putBlk (e : List UInt8) (n : Int) : List Instr := [⟨10, 3, 0, 0, []⟩, ⟨14, 3, 0, 0, e⟩, ⟨0, 0, n, 0, []⟩, ⟨7, 3, 0, 0, []⟩, ⟨1, 0, 3, 0, []⟩, ⟨8, 0, 5, 1, []⟩, ⟨7, 0, 3, 1, []⟩, ⟨17, 0, 0, 0, e⟩]
def takeBlk (e p : List UInt8) : List Instr := [⟨17, 0, 0, 0, p ++ [46, 97]⟩, ⟨0, 0, 0, 0, []⟩, ⟨0, 1, 1, 0, []⟩, ⟨9, 5, 0, 2, []⟩, ⟨14, 0, 0, 0, p ++ [46, 98]⟩, ⟨16, 0, 0, 0, p ++ [46, 97]⟩, ⟨17, 0, 0, 0, p ++ [46, 98]⟩,
  ⟨17, 0, 0, 0, p ++ [46, 99]⟩, ⟨6, 0, 5, 0, []⟩, ⟨6, 2, 0, 1, []⟩, ⟨14, 2, 0, 0, p ++ [46, 100]⟩, ⟨7, 5, 2, 0, []⟩, ⟨6, 4, 2, 0, []⟩, ⟨1, 3, 0, 0, []⟩, ⟨16, 0, 0, 0, p ++ [46, 102]⟩,
  ⟨17, 0, 0, 0, p ++ [46, 100]⟩, ⟨6, 1, 5, 1, []⟩, ⟨15, 0, 1, 0, p ++ [46, 101]⟩, ⟨16, 0, 0, 0, p ++ [46, 99]⟩, ⟨17, 0, 0, 0, p ++ [46, 101]⟩, ⟨0, 3, 0, 0, []⟩, ⟨0, 4, 0, 0, []⟩, ⟨17, 0, 0, 0, p ++ [46, 102]⟩,
  ⟨0, 0, 0, 0, []⟩, ⟨7, 5, 0, 2, []⟩, ⟨12, 0, 0, 0, []⟩, ⟨14, 3, 0, 0, e⟩, ⟨18, 4, 0, 0, []⟩, ⟨11, 3, 0, 0, []⟩, ⟨17, 0, 0, 0, e⟩]
/-- Places: of an op that puts, or takes; what is still to put behind it. -/
inductive Pos where
  | fin
  | pu (o : Nat) (n : Int) (r : List Int)
  | ta (o : Nat) (r : List Int)
deriving DecidableEq
/-- Numbers of the instruction at a place. -/
def insOf : Pos → Option (Nat × Int × Int × Int)
  | .pu 0 _ _ => some (10, 3, 0, 0)
  | .pu 1 _ _ => some (14, 3, 0, 0)
  | .pu 2 n _ => some (0, 0, n, 0)
  | .pu 3 _ _ => some (7, 3, 0, 0)
  | .pu 4 _ _ => some (1, 0, 3, 0)
  | .pu 5 _ _ => some (8, 0, 5, 1)
  | .pu 6 _ _ => some (7, 0, 3, 1)
  | .pu 7 _ _ => some (17, 0, 0, 0)
  | .ta 0 _ => some (17, 0, 0, 0)
  | .ta 1 _ => some (0, 0, 0, 0)
  | .ta 2 _ => some (0, 1, 1, 0)
  | .ta 3 _ => some (9, 5, 0, 2)
  | .ta 4 _ => some (14, 0, 0, 0)
  | .ta 5 _ => some (16, 0, 0, 0)
  | .ta 6 _ => some (17, 0, 0, 0)
  | .ta 7 _ => some (17, 0, 0, 0)
  | .ta 8 _ => some (6, 0, 5, 0)
  | .ta 9 _ => some (6, 2, 0, 1)
  | .ta 10 _ => some (14, 2, 0, 0)
  | .ta 11 _ => some (7, 5, 2, 0)
  | .ta 12 _ => some (6, 4, 2, 0)
  | .ta 13 _ => some (1, 3, 0, 0)
  | .ta 14 _ => some (16, 0, 0, 0)
  | .ta 15 _ => some (17, 0, 0, 0)
  | .ta 16 _ => some (6, 1, 5, 1)
  | .ta 17 _ => some (15, 0, 1, 0)
  | .ta 18 _ => some (16, 0, 0, 0)
  | .ta 19 _ => some (17, 0, 0, 0)
  | .ta 20 _ => some (0, 3, 0, 0)
  | .ta 21 _ => some (0, 4, 0, 0)
  | .ta 22 _ => some (17, 0, 0, 0)
  | .ta 23 _ => some (0, 0, 0, 0)
  | .ta 24 _ => some (7, 5, 0, 2)
  | .ta 25 _ => some (12, 0, 0, 0)
  | .ta 26 _ => some (14, 3, 0, 0)
  | .ta 27 _ => some (18, 4, 0, 0)
  | .ta 28 _ => some (11, 3, 0, 0)
  | .ta 29 _ => some (17, 0, 0, 0)
  | _ => none
def tgtOf : Pos → Nat
  | .pu _ _ _ => 7
  | .ta 4 _ => 6
  | .ta 5 _ => 0
  | .ta 10 _ => 15
  | .ta 14 _ => 22
  | .ta 17 _ => 19
  | .ta 18 _ => 7
  | _ => 29
def Pos.go : Pos → Nat → Pos
  | .fin, _ => .fin
  | .pu _ n r, o => .pu o n r
  | .ta _ r, o => .ta o r
/-- What a thread has still to put. -/
def remOf : Pos → List Int
  | .fin => []
  | .pu o n r => if o ≤ 5 then n :: r else r
  | .ta _ r => r
def putsOf : List Op → List Int
  | [] => []
  | .put n :: l => n :: putsOf l
  | .take :: l => putsOf l
def annOf : List Op → List Pos
  | [] => [.fin]
  | .put n :: l => (List.range 8).map (fun o => .pu o n (putsOf l)) ++ annOf l
  | .take :: l => (List.range 30).map (fun o => .ta o (putsOf l)) ++ annOf l
/-- A thread's code: labels by numbers from k on. -/
def codeOf (lab : Nat → List UInt8) : Nat → List Op → List Instr
  | _, [] => [⟨20, 0, 0, 0, []⟩]
  | k, .put n :: l => putBlk (lab (k + 1)) n ++ codeOf lab (k + 2) l
  | k, .take :: l => takeBlk (lab (k + 1)) (lab (k + 2)) ++ codeOf lab (k + 2) l
end Qu
end
/- The queue on the plain machine: the invariant. -/
section
namespace Qu
open Qs Qg
/-- Two that stand side by side. -/
def Nx (ch : List Int) (a b : Int) : Prop := ∃ i, ch[i]? = some a ∧ ch[i + 1]? = some b
/-- The cell a thread has in hand. -/
def own (rg : Nat → Int) : Pos → Option Int
  | .pu 1 _ _ => if rg 3 = 0 then none else some (rg 3)
  | .pu 2 _ _ => some (rg 3)
  | .pu 3 _ _ => some (rg 3)
  | .pu 4 _ _ => some (rg 3)
  | .pu 5 _ _ => some (rg 3)
  | .ta 12 _ => some (rg 0)
  | .ta 13 _ => some (rg 0)
  | .ta 14 _ => some (rg 3)
  | .ta 22 _ => if rg 3 = 0 then none else some (rg 3)
  | .ta 23 _ => if rg 3 = 0 then none else some (rg 3)
  | .ta 24 _ => if rg 3 = 0 then none else some (rg 3)
  | .ta 25 _ => if rg 3 = 0 then none else some (rg 3)
  | .ta 26 _ => if rg 3 = 0 then none else some (rg 3)
  | .ta 27 _ => some (rg 3)
  | .ta 28 _ => some (rg 3)
  | _ => none
/-- Who has the lock. -/
def Has (rg : Nat → Int) (bf : List En) : Pos → Prop
  | .ta 4 _ => rg 0 = 0
  | .ta 25 _ => bf ≠ []
  | .ta o _ => 6 ≤ o ∧ o ≤ 24
  | _ => False
/-- A link that a thread is to make, or has not drained. -/
def Pnd (rg : Nat → Int) (bf : List En) (p : Pos) (a b : Int) : Prop :=
  match p with
  | .pu 6 _ _ => a = rg 0 ∧ b = rg 3
  | .pu o _ _ => ⟨a, 1, b⟩ ∈ bf
  | .ta o _ => o ≤ 3 ∧ ⟨a, 1, b⟩ ∈ bf
  | .fin => ⟨a, 1, b⟩ ∈ bf
/-- At most one link waits. -/
def Lk (bf : List En) : Prop := bf = [] ∨ ∃ a b, bf = [⟨a, 1, b⟩]
section
variable (q : Int) (sm : Prop) (rg : Nat → Int) (bf : List En) (vl : Int → Nat → Int) (ch : List Int) (pend : List Int)
/-- What holds at a place. -/
def Loc : Pos → Prop
  | .pu 0 _ _ => Lk bf ∧ pend = []
  | .pu 1 _ _ => Lk bf ∧ pend = [] ∧ (rg 3 ≠ 0 → vl (rg 3) 1 = 0) ∧ (sm → rg 3 ≠ 0)
  | .pu 2 _ _ => Lk bf ∧ pend = [] ∧ rg 3 ≠ 0 ∧ vl (rg 3) 1 = 0
  | .pu 3 n _ => Lk bf ∧ pend = [] ∧ rg 3 ≠ 0 ∧ vl (rg 3) 1 = 0 ∧ rg 0 = n
  | .pu 4 n _ => pend = [] ∧ rg 3 ≠ 0 ∧ vl (rg 3) 1 = 0 ∧ ((bf = [] ∧ vl (rg 3) 0 = n) ∨ bf = [⟨rg 3, 0, n⟩] ∨ ∃ a b, bf = [⟨a, 1, b⟩, ⟨rg 3, 0, n⟩])
  | .pu 5 n _ => pend = [] ∧ rg 3 ≠ 0 ∧ vl (rg 3) 1 = 0 ∧ rg 0 = rg 3 ∧ ((bf = [] ∧ vl (rg 3) 0 = n) ∨ bf = [⟨rg 3, 0, n⟩] ∨ ∃ a b, bf = [⟨a, 1, b⟩, ⟨rg 3, 0, n⟩])
  | .pu 6 _ _ => bf = [] ∧ pend = []
  | .pu 7 _ _ => Lk bf ∧ pend = []
  | .pu _ _ _ => False
  | .fin => Lk bf ∧ pend = []
  | .ta 0 _ => Lk bf ∧ pend = []
  | .ta 1 _ => Lk bf ∧ pend = []
  | .ta 2 _ => Lk bf ∧ pend = [] ∧ rg 0 = 0
  | .ta 3 _ => Lk bf ∧ pend = [] ∧ rg 0 = 0 ∧ rg 1 = 1
  | .ta 4 _ => bf = [] ∧ pend = []
  | .ta 5 _ => bf = [] ∧ pend = []
  | .ta 6 _ => bf = [] ∧ pend = []
  | .ta 7 _ => bf = [] ∧ pend = []
  | .ta 8 _ => bf = [] ∧ pend = []
  | .ta 9 _ => bf = [] ∧ pend = [] ∧ ch[0]? = some (rg 0)
  | .ta 10 _ => bf = [] ∧ pend = [] ∧ ch[0]? = some (rg 0) ∧ (rg 2 = 0 ∨ ch[1]? = some (rg 2) ∧ vl (rg 0) 1 = rg 2)
  | .ta 11 _ => bf = [] ∧ pend = [] ∧ ch[0]? = some (rg 0) ∧ ch[1]? = some (rg 2) ∧ vl (rg 0) 1 = rg 2
  | .ta 12 _ => (bf = [] ∨ bf = [⟨q, 0, rg 2⟩]) ∧ ch[0]? = some (rg 2) ∧ pend = [vl (rg 2) 0] ∧ rg 0 ≠ 0
  | .ta 13 _ => (bf = [] ∨ ∃ h, bf = [⟨q, 0, h⟩]) ∧ pend = [rg 4] ∧ rg 0 ≠ 0
  | .ta 14 _ => (bf = [] ∨ ∃ h, bf = [⟨q, 0, h⟩]) ∧ pend = [rg 4] ∧ rg 3 ≠ 0
  | .ta 15 _ => bf = [] ∧ pend = []
  | .ta 16 _ => bf = [] ∧ pend = []
  | .ta 17 _ => bf = [] ∧ pend = []
  | .ta 18 _ => bf = [] ∧ pend = []
  | .ta 19 _ => bf = [] ∧ pend = []
  | .ta 20 _ => bf = [] ∧ pend = []
  | .ta 21 _ => bf = [] ∧ pend = [] ∧ rg 3 = 0
  | .ta 22 _ => (bf = [] ∨ ∃ h, bf = [⟨q, 0, h⟩]) ∧ (rg 3 = 0 ∧ pend = [] ∨ rg 3 ≠ 0 ∧ pend = [rg 4])
  | .ta 23 _ => (bf = [] ∨ ∃ h, bf = [⟨q, 0, h⟩]) ∧ (rg 3 = 0 ∧ pend = [] ∨ rg 3 ≠ 0 ∧ pend = [rg 4])
  | .ta 24 _ => (bf = [] ∨ ∃ h, bf = [⟨q, 0, h⟩]) ∧ rg 0 = 0 ∧ (rg 3 = 0 ∧ pend = [] ∨ rg 3 ≠ 0 ∧ pend = [rg 4])
  | .ta 25 _ => (bf = [] ∨ bf = [⟨q, 2, 0⟩] ∨ ∃ h, bf = [⟨q, 0, h⟩, ⟨q, 2, 0⟩]) ∧ (rg 3 = 0 ∧ pend = [] ∨ rg 3 ≠ 0 ∧ pend = [rg 4])
  | .ta 26 _ => bf = [] ∧ (rg 3 = 0 ∧ pend = [] ∨ rg 3 ≠ 0 ∧ pend = [rg 4])
  | .ta 27 _ => bf = [] ∧ rg 3 ≠ 0 ∧ pend = [rg 4]
  | .ta 28 _ => bf = [] ∧ rg 3 ≠ 0 ∧ pend = []
  | .ta 29 _ => bf = [] ∧ pend = []
  | .ta _ _ => False
end
structure Inv (n : Nat) (q : Int) (sm : Prop) (s : A) (p : Nat → Pos) (ch : List Int) (G : Gh) : Prop where
  hq : s.here q = true
  q0 : q ≠ 0
  qc : ¬ q ∈ ch
  nd : ch.Nodup
  ne : ch ≠ []
  hc : ∀ x ∈ ch, x ≠ 0 ∧ s.here x = true
  r5 : ∀ t, t < n → s.reg t 5 = q
  here : ∀ x, s.here x = true → x = q ∨ x ∈ ch ∨ ∃ t, t < n ∧ own (s.reg t) (p t) = some x
  ho : ∀ t, t < n → ∀ x, own (s.reg t) (p t) = some x → s.here x = true ∧ x ≠ q ∧ ¬ x ∈ ch
  oi : ∀ t u x, t < n → u < n → own (s.reg t) (p t) = some x → own (s.reg u) (p u) = some x → t = u
  loc : ∀ t, t < n → Loc q sm (s.reg t) (s.buf t) s.val ch (G.pend t) (p t)
  rem : ∀ t, t < n → G.rem t = remOf (p t)
  tail : ch.getLast? = some (s.val q 1)
  last : ∀ a, ch.getLast? = some a → s.val a 1 = 0
  vals : G.chv = ch.tail.map fun a => s.val a 0
  pn : ∀ t a b, t < n → Pnd (s.reg t) (s.buf t) (p t) a b → Nx ch a b ∧ s.val a 1 = 0
  pi : ∀ t u a b c, t < n → u < n → Pnd (s.reg t) (s.buf t) (p t) a b → Pnd (s.reg u) (s.buf u) (p u) a c → t = u
  lk : ∀ a b, Nx ch a b → s.val a 1 = b ∨ ∃ t, t < n ∧ Pnd (s.reg t) (s.buf t) (p t) a b
  free : (s.val q 2 = 0 ∧ ch.head? = some (s.val q 0) ∧ ∀ t, t < n → ¬ Has (s.reg t) (s.buf t) (p t)) ∨
    ∃ h, h < n ∧ Has (s.reg h) (s.buf h) (p h) ∧ s.val q 2 = 1 ∧ ch.head? = some (s.vw h q 0) ∧ ∀ t, t < n → t ≠ h → ¬ Has (s.reg t) (s.buf t) (p t)
end Qu
end
/- Neighbours in a chain. -/
section
namespace Qu
open Qs Qg
variable {ch : List Int} {a b c x : Int}
theorem nd_inj (nd : ch.Nodup) {i j : Nat} (h1 : ch[i]? = some a) (h2 : ch[j]? = some a) : i = j := by
  obtain ⟨hi, e1⟩ := List.getElem?_eq_some_iff.1 h1
  obtain ⟨hj, e2⟩ := List.getElem?_eq_some_iff.1 h2
  exact (List.getElem_inj nd).1 (e1.trans e2.symm)
theorem Nx.inj (nd : ch.Nodup) (h1 : Nx ch a b) (h2 : Nx ch a c) : b = c := by
  obtain ⟨i, i1, i2⟩ := h1
  obtain ⟨j, j1, j2⟩ := h2
  obtain rfl := nd_inj nd i1 j1
  rw [i2] at j2
  exact Option.some.inj j2
theorem Nx.memL (h : Nx ch a b) : a ∈ ch := by
  obtain ⟨i, i1, i2⟩ := h
  exact List.mem_of_getElem? i1
theorem Nx.noLast (nd : ch.Nodup) (h : Nx ch a b) (hl : ch.getLast? = some a) : False := by
  obtain ⟨i, i1, i2⟩ := h
  rw [List.getLast?_eq_getElem?] at hl
  have := nd_inj nd i1 hl
  have := (List.getElem?_eq_some_iff.1 i2).1
  omega
/-- A node behind the last one. -/
theorem Nx.snoc (hl : ch.getLast? = some c) : Nx (ch ++ [x]) a b ↔ Nx ch a b ∨ (a = c ∧ b = x) := by
  rw [List.getLast?_eq_getElem?] at hl
  have hlen := (List.getElem?_eq_some_iff.1 hl).1
  constructor
  · rintro ⟨i, i1, i2⟩
    have hi := (List.getElem?_eq_some_iff.1 i2).1
    rw [List.length_append, List.length_singleton] at hi
    rw [List.getElem?_append_left (by omega)] at i1
    by_cases e : i + 1 < ch.length
    · rw [List.getElem?_append_left e] at i2
      exact .inl ⟨i, i1, i2⟩
    · obtain rfl : i = ch.length - 1 := by omega
      rw [i1] at hl
      rw [List.getElem?_append_right (by omega), show ch.length - 1 + 1 - ch.length = 0 by omega] at i2
      exact .inr ⟨Option.some.inj hl, by simpa using i2.symm⟩
  · rintro (⟨i, i1, i2⟩ | ⟨rfl, rfl⟩)
    · exact ⟨i, by rw [List.getElem?_append_left (List.getElem?_eq_some_iff.1 i1).1]; exact i1, by rw [List.getElem?_append_left (List.getElem?_eq_some_iff.1 i2).1]; exact i2⟩
    · refine ⟨ch.length - 1, by rw [List.getElem?_append_left (by omega)]; exact hl, ?_⟩
      rw [List.getElem?_append_right (by omega), show ch.length - 1 + 1 - ch.length = 0 by omega]
      rfl
/-- The first node taken away. -/
theorem Nx.cons : Nx (x :: ch) a b ↔ Nx ch a b ∨ (a = x ∧ ch[0]? = some b) := by
  constructor
  · rintro ⟨i, i1, i2⟩
    match i, i1, i2 with
    | 0, i1, i2 => exact .inr ⟨by simpa using i1.symm, by simpa using i2⟩
    | i + 1, i1, i2 => exact .inl ⟨i, by simpa using i1, by simpa using i2⟩
  · rintro (⟨i, i1, i2⟩ | ⟨rfl, h⟩)
    · exact ⟨i + 1, by simpa using i1, by simpa using i2⟩
    · exact ⟨0, rfl, by simpa using h⟩
end Qu
end
/- What holds at a place goes on to hold where what it tells of memory does. -/
section
namespace Qu
open Qs Qg
theorem Loc.vl {q : Int} {sm : Prop} {rg : Nat → Int} {bf : List En} {vl vl' : Int → Nat → Int} {ch pend : List Int} {p : Pos} (h : Loc q sm rg bf vl ch pend p)
    (e1 : ∀ x w, own rg p = some x → vl' x w = vl x w) (e2 : ∀ x y, Nx ch x y → vl x 1 = y → vl' x 1 = y) (e3 : ∀ x ∈ ch, vl' x 0 = vl x 0) : Loc q sm rg bf vl' ch pend p := by
  cases p with
  | fin => exact h
  | pu o n r =>
    match o, h, e1 with
    | 0, h, e1 => exact h
    | 1, h, e1 => exact ⟨h.1, h.2.1, fun g => by rw [e1 _ _ (if_neg g)]; exact h.2.2.1 g, h.2.2.2⟩
    | 2, h, e1 => exact ⟨h.1, h.2.1, h.2.2.1, by rw [e1 _ _ rfl]; exact h.2.2.2⟩
    | 3, h, e1 => exact ⟨h.1, h.2.1, h.2.2.1, by rw [e1 _ _ rfl]; exact h.2.2.2.1, h.2.2.2.2⟩
    | 4, h, e1 => exact ⟨h.1, h.2.1, by rw [e1 _ _ rfl]; exact h.2.2.1, by rw [e1 _ _ rfl]; exact h.2.2.2⟩
    | 5, h, e1 => exact ⟨h.1, h.2.1, by rw [e1 _ _ rfl]; exact h.2.2.1, h.2.2.2.1, by rw [e1 _ _ rfl]; exact h.2.2.2.2⟩
    | 6, h, e1 => exact h
    | 7, h, e1 => exact h
    | _ + 8, h, e1 => exact h
  | ta o r =>
    match o, h, e1 with
    | 0, h, e1 => exact h
    | 1, h, e1 => exact h
    | 2, h, e1 => exact h
    | 3, h, e1 => exact h
    | 4, h, e1 => exact h
    | 5, h, e1 => exact h
    | 6, h, e1 => exact h
    | 7, h, e1 => exact h
    | 8, h, e1 => exact h
    | 9, h, e1 => exact h
    | 10, h, e1 => exact ⟨h.1, h.2.1, h.2.2.1, h.2.2.2.imp id fun g => ⟨g.1, e2 _ _ ⟨0, h.2.2.1, g.1⟩ g.2⟩⟩
    | 11, h, e1 => exact ⟨h.1, h.2.1, h.2.2.1, h.2.2.2.1, e2 _ _ ⟨0, h.2.2.1, h.2.2.2.1⟩ h.2.2.2.2⟩
    | 12, h, e1 => exact ⟨h.1, h.2.1, by rw [e3 _ (List.mem_of_getElem? h.2.1)]; exact h.2.2.1, h.2.2.2⟩
    | 13, h, e1 => exact h
    | 14, h, e1 => exact h
    | 15, h, e1 => exact h
    | 16, h, e1 => exact h
    | 17, h, e1 => exact h
    | 18, h, e1 => exact h
    | 19, h, e1 => exact h
    | 20, h, e1 => exact h
    | 21, h, e1 => exact h
    | 22, h, e1 => exact h
    | 23, h, e1 => exact h
    | 24, h, e1 => exact h
    | 25, h, e1 => exact h
    | 26, h, e1 => exact h
    | 27, h, e1 => exact h
    | 28, h, e1 => exact h
    | 29, h, e1 => exact h
    | _ + 30, h, e1 => exact h
end Qu
end
/- The queue on the plain machine: a store that is drained keeps the invariant. -/
section
namespace Qu
open Qs Qg
variable {n t u : Nat} {q : Int} {sm : Prop} {s s' : A} {p : Nat → Pos} {ch : List Int} {G : Gh} {rg : Nat → Int} {x e : En} {r bf : List En} {vl vl' : Int → Nat → Int} {pend : List Int} {P : Pos}
theorem lk_cons (h : Lk (x :: r)) : ∃ a b, x = ⟨a, 1, b⟩ ∧ r = [] := by
  rcases h with h | ⟨a, b, h⟩
  · cases h
  · cases h; exact ⟨a, b, rfl, rfl⟩
/-- A link is drained. -/
def KLink (q : Int) (sm : Prop) (rg : Nat → Int) (x : En) (r : List En) (vl : Int → Nat → Int) (ch pend : List Int) (P : Pos) : Prop :=
  ∃ a b, x = ⟨a, 1, b⟩ ∧ Pnd rg (x :: r) P a b ∧ (∀ a' b', Pnd rg (x :: r) P a' b' → a' = a) ∧ (∀ a b, ¬ Pnd rg r P a b) ∧ (∀ bf, ¬ Has rg bf P) ∧ Loc q sm rg r vl ch pend P
/-- What is to be put is drained. -/
def KOwn (q : Int) (sm : Prop) (rg : Nat → Int) (x : En) (r : List En) (vl : Int → Nat → Int) (ch pend : List Int) (P : Pos) : Prop :=
  ∃ v, x = ⟨rg 3, 0, v⟩ ∧ own rg P = some (rg 3) ∧ (∀ bf, ¬ Has rg bf P) ∧ (∀ a b, ¬ Pnd rg (x :: r) P a b) ∧ (∀ a b, ¬ Pnd rg r P a b) ∧ ∀ vl' : Int → Nat → Int, vl' (rg 3) 1 = vl (rg 3) 1 → vl' (rg 3) 0 = v → Loc q sm rg r vl' ch pend P
/-- The head is drained. -/
def KHead (q : Int) (sm : Prop) (rg : Nat → Int) (x : En) (r : List En) (vl : Int → Nat → Int) (ch pend : List Int) (P : Pos) : Prop :=
  ∃ h, x = ⟨q, 0, h⟩ ∧ Has rg (x :: r) P ∧ Has rg r P ∧ (∀ bf a b, ¬ Pnd rg bf P a b) ∧ Loc q sm rg r vl ch pend P
/-- The lock is drained. -/
def KLock (q : Int) (sm : Prop) (rg : Nat → Int) (x : En) (r : List En) (vl : Int → Nat → Int) (ch pend : List Int) (P : Pos) : Prop :=
  x = ⟨q, 2, 0⟩ ∧ r = [] ∧ Has rg (x :: r) P ∧ ¬ Has rg r P ∧ (∀ bf a b, ¬ Pnd rg bf P a b) ∧ Loc q sm rg r vl ch pend P
theorem klink (hP : ∀ bf a b, Pnd rg bf P a b ↔ ⟨a, 1, b⟩ ∈ bf) (hH : ∀ bf, ¬ Has rg bf P) (h : Lk (x :: r)) (hL : Loc q sm rg [] vl ch pend P) : KLink q sm rg x r vl ch pend P := by
  obtain ⟨a, b, rfl, rfl⟩ := lk_cons h
  refine ⟨a, b, rfl, (hP _ _ _).2 (by simp), fun a' b' h => ?_, fun a b h => ?_, hH, hL⟩
  · have := (hP _ _ _).1 h
    simp at this
    exact this.1
  · have := (hP _ _ _).1 h
    simp at this
theorem khead {R : Prop} (hP : ∀ bf a b, ¬ Pnd rg bf P a b) (hH : ∀ bf, Has rg bf P) (h : x :: r = [] ∨ ∃ h, x :: r = [⟨q, 0, h⟩]) (hL : Loc q sm rg [] vl ch pend P) : KHead q sm rg x r vl ch pend P := by
  rcases h with h | ⟨h, g⟩
  · cases h
  · cases g
    exact ⟨h, rfl, hH _, hH _, hP, hL⟩
theorem kown {v : Int} (hP : ∀ bf a b, Pnd rg bf P a b ↔ ⟨a, 1, b⟩ ∈ bf) (hH : ∀ bf, ¬ Has rg bf P) (ho : own rg P = some (rg 3)) (h : (x :: r = [] ∧ vl (rg 3) 0 = v) ∨ x :: r = [⟨rg 3, 0, v⟩] ∨ ∃ a b, x :: r = [⟨a, 1, b⟩, ⟨rg 3, 0, v⟩])
    (h0 : vl (rg 3) 1 = 0) (hL : ∀ (bf : List En) (vl' : Int → Nat → Int), vl' (rg 3) 1 = 0 → ((bf = [] ∧ vl' (rg 3) 0 = v) ∨ bf = [⟨rg 3, 0, v⟩] ∨ ∃ a b, bf = [⟨a, 1, b⟩, ⟨rg 3, 0, v⟩]) → Loc q sm rg bf vl' ch pend P) : KLink q sm rg x r vl ch pend P ∨ KOwn q sm rg x r vl ch pend P := by
  rcases h with ⟨h, _⟩ | h | ⟨a, b, h⟩
  · cases h
  · cases h
    refine .inr ⟨v, rfl, ho, hH, fun a b h => ?_, fun a b h => ?_, fun vl' e1 e2 => hL _ _ (by rw [e1]; exact h0) (.inl ⟨rfl, e2⟩)⟩
    · have := (hP _ _ _).1 h; simp at this
    · have := (hP _ _ _).1 h; simp at this
  · cases h
    refine .inl ⟨a, b, rfl, (hP _ _ _).2 (by simp), fun a' b' h => ?_, fun a b h => ?_, hH, hL _ _ h0 (.inr (.inl rfl))⟩
    · have := (hP _ _ _).1 h; simp at this; exact this.1
    · have := (hP _ _ _).1 h; simp at this
theorem Loc.kinds (h : Loc q sm rg (x :: r) vl ch pend P) : KLink q sm rg x r vl ch pend P ∨ KOwn q sm rg x r vl ch pend P ∨ KHead q sm rg x r vl ch pend P ∨ KLock q sm rg x r vl ch pend P := by
  cases P with
  | fin => exact .inl (klink (fun _ _ _ => Iff.rfl) (fun _ h => h) h.1 ⟨.inl rfl, h.2⟩)
  | pu o v l =>
    match o, h with
    | 0, h => exact .inl (klink (fun _ _ _ => Iff.rfl) (fun _ h => h) h.1 ⟨.inl rfl, h.2⟩)
    | 1, h => exact .inl (klink (fun _ _ _ => Iff.rfl) (fun _ h => h) h.1 ⟨.inl rfl, h.2⟩)
    | 2, h => exact .inl (klink (fun _ _ _ => Iff.rfl) (fun _ h => h) h.1 ⟨.inl rfl, h.2⟩)
    | 3, h => exact .inl (klink (fun _ _ _ => Iff.rfl) (fun _ h => h) h.1 ⟨.inl rfl, h.2⟩)
    | 4, h => exact (kown (P := .pu 4 v l) (q := q) (sm := sm) (ch := ch) (pend := pend) (vl := vl) (fun _ _ _ => Iff.rfl) (fun _ h => h) rfl h.2.2.2 h.2.2.1 fun bf vl' e1 e2 => ⟨h.1, h.2.1, e1, e2⟩).imp id .inl
    | 5, h => exact (kown (P := .pu 5 v l) (q := q) (sm := sm) (ch := ch) (pend := pend) (vl := vl) (fun _ _ _ => Iff.rfl) (fun _ h => h) rfl h.2.2.2.2 h.2.2.1 fun bf vl' e1 e2 => ⟨h.1, h.2.1, e1, h.2.2.2.1, e2⟩).imp id .inl
    | 6, h => cases h.1
    | 7, h => exact .inl (klink (fun _ _ _ => Iff.rfl) (fun _ h => h) h.1 ⟨.inl rfl, h.2⟩)
    | _ + 8, h => exact h.elim
  | ta o l =>
    have lo : ∀ {k : Nat}, 4 ≤ k → ∀ (bf : List En) a b, ¬ Pnd rg bf (.ta k l) a b := fun hk bf a b h => by have := h.1; omega
    have mid : ∀ {k : Nat}, 3 ≥ k → ∀ (bf : List En) a b, Pnd rg bf (.ta k l) a b ↔ ⟨a, 1, b⟩ ∈ bf := fun hk bf a b => ⟨fun h => h.2, fun h => ⟨hk, h⟩⟩
    match o, h with
    | 0, h => exact .inl (klink (mid (by omega)) (fun _ h => by have := h.1; omega) h.1 ⟨.inl rfl, h.2⟩)
    | 1, h => exact .inl (klink (mid (by omega)) (fun _ h => by have := h.1; omega) h.1 ⟨.inl rfl, h.2⟩)
    | 2, h => exact .inl (klink (mid (by omega)) (fun _ h => by have := h.1; omega) h.1 ⟨.inl rfl, h.2⟩)
    | 3, h => exact .inl (klink (mid (by omega)) (fun _ h => by have := h.1; omega) h.1 ⟨.inl rfl, h.2⟩)
    | 4, h => cases h.1
    | 5, h => cases h.1
    | 6, h => cases h.1
    | 7, h => cases h.1
    | 8, h => cases h.1
    | 9, h => cases h.1
    | 10, h => cases h.1
    | 11, h => cases h.1
    | 12, h => exact .inr (.inr (.inl (khead (R := True) (lo (by omega)) (fun _ => ⟨by omega, by omega⟩) (h.1.imp id fun g => ⟨_, g⟩) ⟨.inl rfl, h.2⟩)))
    | 13, h => exact .inr (.inr (.inl (khead (R := True) (lo (by omega)) (fun _ => ⟨by omega, by omega⟩) h.1 ⟨.inl rfl, h.2⟩)))
    | 14, h => exact .inr (.inr (.inl (khead (R := True) (lo (by omega)) (fun _ => ⟨by omega, by omega⟩) h.1 ⟨.inl rfl, h.2⟩)))
    | 15, h => cases h.1
    | 16, h => cases h.1
    | 17, h => cases h.1
    | 18, h => cases h.1
    | 19, h => cases h.1
    | 20, h => cases h.1
    | 21, h => cases h.1
    | 22, h => exact .inr (.inr (.inl (khead (R := True) (lo (by omega)) (fun _ => ⟨by omega, by omega⟩) h.1 ⟨.inl rfl, h.2⟩)))
    | 23, h => exact .inr (.inr (.inl (khead (R := True) (lo (by omega)) (fun _ => ⟨by omega, by omega⟩) h.1 ⟨.inl rfl, h.2⟩)))
    | 24, h => exact .inr (.inr (.inl (khead (R := True) (lo (by omega)) (fun _ => ⟨by omega, by omega⟩) h.1 ⟨.inl rfl, h.2⟩)))
    | 25, h =>
      obtain ⟨h1, h2⟩ := h
      rcases h1 with g | g | ⟨k, g⟩
      · cases g
      · cases g
        exact .inr (.inr (.inr ⟨rfl, rfl, by show _ :: _ ≠ []; simp, fun h => h rfl, lo (by omega), .inl rfl, h2⟩))
      · cases g
        exact .inr (.inr (.inl ⟨k, rfl, by show _ :: _ ≠ []; simp, by show _ :: _ ≠ []; simp, lo (by omega), .inr (.inl rfl), h2⟩))
    | 26, h => cases h.1
    | 27, h => cases h.1
    | 28, h => cases h.1
    | 29, h => cases h.1
    | _ + 30, h => exact h.elim
theorem vw_drain (hb : s.buf t = e :: r) (x : Int) (w : Nat) : ((s.put e).setB t r).vw t x w = s.vw t x w := by
  unfold A.vw
  rw [hb]
  show lk1 (if t = t then r else _) x w (if x = e.a ∧ w = e.w then e.v else s.val x w) = lk1 r x w (if e.a = x ∧ e.w = w then e.v else s.val x w)
  rw [if_pos rfl]
  congr 1
  by_cases h : x = e.a ∧ w = e.w
  · rw [if_pos h, if_pos ⟨h.1.symm, h.2.symm⟩]
  · rw [if_neg h, if_neg (fun g => h ⟨g.1.symm, g.2.symm⟩)]
theorem Inv.drL (I : Inv n q sm s p ch G) (ht : t < n) {a b : Int} (hb : s.buf t = ⟨a, 1, b⟩ :: r) (hK : Pnd (s.reg t) (⟨a, 1, b⟩ :: r) (p t) a b) (hua : ∀ a' b', Pnd (s.reg t) (⟨a, 1, b⟩ :: r) (p t) a' b' → a' = a)
    (hn : ∀ a b, ¬ Pnd (s.reg t) r (p t) a b) (hH : ∀ bf, ¬ Has (s.reg t) bf (p t)) (hL : Loc q sm (s.reg t) r s.val ch (G.pend t) (p t)) : Inv n q sm ((s.put ⟨a, 1, b⟩).setB t r) p ch G := by
  obtain ⟨hx, h0⟩ := I.pn t a b ht (by rw [hb]; exact hK)
  have ha := hx.memL
  have haq : q ≠ a := fun h => I.qc (h ▸ ha)
  obtain ⟨s', hs'⟩ : ∃ s', s' = (s.put ⟨a, 1, b⟩).setB t r := ⟨_, rfl⟩
  have hvw := fun x w => vw_drain hb x w
  rw [← hs'] at hvw ⊢
  have ev : ∀ x w, s'.val x w = if x = a ∧ w = 1 then b else s.val x w := by rw [hs']; exact fun _ _ => rfl
  have er : s'.reg = s.reg := by rw [hs']; rfl
  have eh : s'.here = s.here := by rw [hs']; rfl
  have ebt : s'.buf t = r := by rw [hs']; exact if_pos rfl
  have ebu : ∀ u, u ≠ t → s'.buf u = s.buf u := fun u hu => by rw [hs']; exact if_neg hu
  have evn : ∀ x w, x ≠ a → s'.val x w = s.val x w := fun x w h => by rw [ev, if_neg (fun g => h g.1)]
  have evw : ∀ x w, w ≠ 1 → s'.val x w = s.val x w := fun x w h => by rw [ev, if_neg (fun g => h g.2)]
  have pnd : ∀ u a b, u < n → Pnd (s'.reg u) (s'.buf u) (p u) a b → u ≠ t ∧ Pnd (s.reg u) (s.buf u) (p u) a b := fun u a b _ h => by
    by_cases e : u = t
    · subst e; rw [ebt, er] at h; exact absurd h (hn _ _)
    · rw [ebu u e, er] at h; exact ⟨e, h⟩
  have has : ∀ u, Has (s'.reg u) (s'.buf u) (p u) ↔ Has (s.reg u) (s.buf u) (p u) := fun u => by
    by_cases e : u = t
    · subst e; rw [er]; exact ⟨fun h => absurd h (hH _), fun h => absurd h (hH _)⟩
    · rw [ebu u e, er]
  have lc : ∀ u, u < n → ∀ bf, Loc q sm (s.reg u) bf s.val ch (G.pend u) (p u) → Loc q sm (s.reg u) bf s'.val ch (G.pend u) (p u) := fun u hu bf h =>
    h.vl (fun x w ho => evn x w fun g => (I.ho u hu x ho).2.2 (g ▸ ha)) (fun x y hxy hv => by
      by_cases e : x = a
      · subst e; rw [ev, if_pos ⟨rfl, rfl⟩]; exact hx.inj I.nd hxy
      · rw [evn x 1 e]; exact hv) (fun x _ => evw x 0 (by omega))
  refine ⟨by rw [eh]; exact I.hq, I.q0, I.qc, I.nd, I.ne, by rw [eh]; exact I.hc, by rw [er]; exact I.r5, by rw [eh, er]; exact I.here, by rw [eh, er]; exact I.ho, by rw [er]; exact I.oi, fun u hu => ?_, I.rem, by rw [evn _ _ haq]; exact I.tail, fun c hc => ?_, ?_, fun u a' b' hu h => ?_, fun u v a' b' c' hu hv h1 h2 => ?_, fun a' b' h => ?_, ?_⟩
  · rw [er]
    by_cases e : u = t
    · subst e; rw [ebt]; exact lc u hu _ hL
    · rw [ebu u e]; exact lc u hu _ (I.loc u hu)
  · rw [evn c 1 (fun g => hx.noLast I.nd (g ▸ hc))]; exact I.last c hc
  · rw [I.vals]
    exact List.map_congr_left fun x _ => (evw x 0 (by omega)).symm
  · obtain ⟨e, h⟩ := pnd u a' b' hu h
    obtain ⟨g1, g2⟩ := I.pn u a' b' hu h
    refine ⟨g1, ?_⟩
    rw [evn a' 1 (fun g => by subst g; exact e (I.pi u t a' b' b hu ht h (by rw [hb]; exact hK)))]
    exact g2
  · exact I.pi u v a' b' c' hu hv (pnd u a' b' hu h1).2 (pnd v a' c' hv h2).2
  · by_cases e : a' = a
    · subst e
      left
      rw [ev, if_pos ⟨rfl, rfl⟩]
      exact hx.inj I.nd h
    · rcases I.lk a' b' h with g | ⟨u, hu', g⟩
      · left; rw [evn a' 1 e]; exact g
      · right
        have e2 : u ≠ t := fun e2 => by subst e2; rw [hb] at g; exact e (hua a' b' g)
        exact ⟨u, hu', by rw [ebu u e2, er]; exact g⟩
  · rw [evn q 2 haq, evn q 0 haq]
    rcases I.free with ⟨g1, g2, g3⟩ | ⟨k, g1, g2, g3, g4, g5⟩
    · exact .inl ⟨g1, g2, fun u hu h => g3 u hu ((has u).1 h)⟩
    · refine .inr ⟨k, g1, (has k).2 g2, g3, ?_, fun u hu hk h => g5 u hu hk ((has u).1 h)⟩
      have e : k ≠ t := fun e => by subst e; exact hH _ g2
      unfold A.vw at g4 ⊢
      rw [ebu k e, evn q 0 haq]; exact g4
theorem Inv.drM (I : Inv n q sm s p ch G) (ht : t < n) (hb : s.buf t = e :: r) (a1 : ¬ e.a ∈ ch) (a2 : e.a = q → e.w ≠ 1) (a4 : ∀ u, u < n → u ≠ t → ∀ x, own (s.reg u) (p u) = some x → x ≠ e.a)
    (hn1 : ∀ a b, ¬ Pnd (s.reg t) (e :: r) (p t) a b) (hn2 : ∀ a b, ¬ Pnd (s.reg t) r (p t) a b) (hL : Loc q sm (s.reg t) r ((s.put e).setB t r).val ch (G.pend t) (p t))
    (hf : (s.put e).val q 2 = 0 ∧ ch.head? = some ((s.put e).val q 0) ∧ (∀ u, u < n → u ≠ t → ¬ Has (s.reg u) (s.buf u) (p u)) ∧ ¬ Has (s.reg t) r (p t) ∨
      ∃ h, h < n ∧ (h ≠ t → Has (s.reg h) (s.buf h) (p h)) ∧ (h = t → Has (s.reg t) r (p t)) ∧ (s.put e).val q 2 = 1 ∧ ch.head? = some (((s.put e).setB t r).vw h q 0) ∧ (∀ u, u < n → u ≠ h → u ≠ t → ¬ Has (s.reg u) (s.buf u) (p u)) ∧ (t ≠ h → ¬ Has (s.reg t) r (p t))) : Inv n q sm ((s.put e).setB t r) p ch G := by
  obtain ⟨s', hs'⟩ : ∃ s', s' = (s.put e).setB t r := ⟨_, rfl⟩
  have hpv : (s.put e).val = s'.val := by rw [hs']; rfl
  rw [hpv] at hf
  rw [← hs'] at hL hf ⊢
  have ev : ∀ x w, s'.val x w = if x = e.a ∧ w = e.w then e.v else s.val x w := by rw [hs']; exact fun _ _ => rfl
  have er : s'.reg = s.reg := by rw [hs']; rfl
  have eh : s'.here = s.here := by rw [hs']; rfl
  have ebt : s'.buf t = r := by rw [hs']; exact if_pos rfl
  have ebu : ∀ u, u ≠ t → s'.buf u = s.buf u := fun u hu => by rw [hs']; exact if_neg hu
  have evc : ∀ x w, x ∈ ch → s'.val x w = s.val x w := fun x w h => by rw [ev]; refine if_neg fun g => ?_; obtain ⟨g1, _⟩ := g; exact a1 (g1 ▸ h)
  have pnd : ∀ u a b, u < n → (Pnd (s'.reg u) (s'.buf u) (p u) a b ↔ Pnd (s.reg u) (s.buf u) (p u) a b) := fun u a b _ => by
    by_cases e : u = t
    · subst e; rw [ebt, er, hb]; exact ⟨fun h => absurd h (hn2 _ _), fun h => absurd h (hn1 _ _)⟩
    · rw [ebu u e, er]
  refine ⟨by rw [eh]; exact I.hq, I.q0, I.qc, I.nd, I.ne, by rw [eh]; exact I.hc, by rw [er]; exact I.r5, by rw [eh, er]; exact I.here, by rw [eh, er]; exact I.ho, by rw [er]; exact I.oi, fun u hu => ?_, I.rem, ?_, fun c hc => ?_, ?_, fun u a' b' hu h => ?_, fun u v a' b' c' hu hv h1 h2 => ?_, fun a' b' h => ?_, ?_⟩
  · rw [er]
    by_cases e1 : u = t
    · subst e1; rw [ebt]; exact hL
    · rw [ebu u e1]
      exact (I.loc u hu).vl (fun x w ho => by rw [ev, if_neg (fun g => a4 u hu e1 x ho g.1)]) (fun x y hxy hv => by rw [evc x 1 hxy.memL]; exact hv) (fun x hx => evc x 0 hx)
  · rw [ev, if_neg (fun g => a2 g.1.symm g.2.symm)]; exact I.tail
  · rw [evc c 1 (List.mem_of_getLast? hc)]; exact I.last c hc
  · rw [I.vals]
    exact List.map_congr_left fun x hx => (evc x 0 (List.mem_of_mem_tail hx)).symm
  · obtain ⟨g1, g2⟩ := I.pn u a' b' hu ((pnd u a' b' hu).1 h)
    exact ⟨g1, by rw [evc a' 1 g1.memL]; exact g2⟩
  · exact I.pi u v a' b' c' hu hv ((pnd u a' b' hu).1 h1) ((pnd v a' c' hv).1 h2)
  · rcases I.lk a' b' h with g | ⟨u, hu', g⟩
    · left; rw [evc a' 1 h.memL]; exact g
    · right; exact ⟨u, hu', (pnd u a' b' hu').2 g⟩
  · rcases hf with ⟨g1, g2, g3, g4⟩ | ⟨k, g1, g2, g3, g4, g5, g6, g7⟩
    · refine .inl ⟨g1, g2, fun u hu h => ?_⟩
      by_cases e : u = t
      · subst e; rw [ebt, er] at h; exact g4 h
      · rw [ebu u e, er] at h; exact g3 u hu e h
    · refine .inr ⟨k, g1, ?_, g4, g5, fun u hu hk h => ?_⟩
      · by_cases e : k = t
        · subst e; rw [ebt, er]; exact g3 rfl
        · rw [ebu k e, er]; exact g2 e
      · by_cases e : u = t
        · subst e; rw [ebt, er] at h; exact g7 hk h
        · rw [ebu u e, er] at h; exact g6 u hu hk e h
theorem Inv.holder (I : Inv n q sm s p ch G) (ht : t < n) (h : Has (s.reg t) (s.buf t) (p t)) : s.val q 2 = 1 ∧ ch.head? = some (s.vw t q 0) ∧ ∀ u, u < n → u ≠ t → ¬ Has (s.reg u) (s.buf u) (p u) := by
  rcases I.free with ⟨g1, g2, g3⟩ | ⟨k, g1, g2, g3, g4, g5⟩
  · exact absurd h (g3 t ht)
  · obtain rfl : t = k := Classical.byContradiction fun e => g5 t ht e h
    exact ⟨g3, g4, g5⟩
/-- A store that is drained keeps the invariant. -/
theorem Inv.dr (I : Inv n q sm s p ch G) (t : Nat) (h0 : ∀ t, n ≤ t → s.buf t = []) : Inv n q sm (s.dr t) p ch G := by
  cases hb : s.buf t with
  | nil => unfold A.dr; rw [hb]; exact I
  | cons x r =>
    have ht : t < n := Nat.lt_of_not_le fun h => by rw [h0 t h] at hb; cases hb
    have hd : s.dr t = (s.put x).setB t r := by unfold A.dr; rw [hb]
    rw [hd]
    have hl := I.loc t ht
    rw [hb] at hl
    rcases hl.kinds with ⟨a, b, rfl, k1, k2, k3, k4, k5⟩ | ⟨v, rfl, k1, k2, k3, k4, k5⟩ | ⟨h, rfl, k1, k2, k3, k4⟩ | ⟨rfl, rfl, k1, k2, k3, k4⟩
    · exact I.drL ht hb k1 k2 k3 k4 k5
    · obtain ⟨o1, o2, o3⟩ := I.ho t ht _ k1
      refine I.drM ht hb o3 (fun h => absurd h o2) (fun u hu hut x hx hxa => hut (I.oi u t x hu ht hx (by rw [hxa]; exact k1))) k3 k4 (k5 _ ?_ ?_) ?_
      · exact if_neg (fun g => absurd (show (1 : Nat) = 0 from g.2) (by decide))
      · exact if_pos ⟨rfl, rfl⟩
      · have e1 : ∀ w, (s.put ⟨s.reg t 3, 0, v⟩).val q w = s.val q w := fun w => if_neg (fun g => o2 g.1.symm)
        rw [e1, e1]
        rcases I.free with ⟨g1, g2, g3⟩ | ⟨k, g1, g2, g3, g4, g5⟩
        · exact .inl ⟨g1, g2, fun u hu _ => g3 u hu, k2 _⟩
        · have ekt : k ≠ t := fun e => by subst e; exact k2 _ g2
          refine .inr ⟨k, g1, fun _ => g2, fun e => absurd e ekt, g3, ?_, fun u hu h1 _ => g5 u hu h1, fun _ => k2 _⟩
          have : ((s.put ⟨s.reg t 3, 0, v⟩).setB t r).vw k q 0 = s.vw k q 0 := by
            show lk1 (if k = t then r else s.buf k) q 0 ((s.put ⟨s.reg t 3, 0, v⟩).val q 0) = _
            rw [if_neg ekt, e1]; rfl
          rw [this]; exact g4
    · obtain ⟨h1, h2, h3⟩ := I.holder ht (by rw [hb]; exact k1)
      refine I.drM ht hb I.qc (fun _ => by show 0 ≠ 1; omega) (fun u hu hut x hx => (I.ho u hu x hx).2.1) (k3 _) (k3 _) (k4.vl (fun x w ho => if_neg (fun g => (I.ho t ht x ho).2.1 (show x = q from g.1))) (fun x y hxy hv => by
        have : ((s.put ⟨q, 0, h⟩).setB t r).val x 1 = s.val x 1 := if_neg (fun g => absurd (show (1 : Nat) = 0 from g.2) (by decide))
        rw [this]; exact hv) (fun x hx => by refine if_neg fun g => I.qc ?_; obtain ⟨g1, _⟩ := g; have g1 : x = q := g1; rw [← g1]; exact hx)) (.inr ⟨t, ht, fun e => absurd rfl e, fun _ => k2, ?_, by rw [vw_drain hb]; exact h2, fun u hu h4 _ => h3 u hu h4, fun e => absurd rfl e⟩)
      have : (s.put ⟨q, 0, h⟩).val q 2 = s.val q 2 := if_neg (fun g => absurd (show (2 : Nat) = 0 from g.2) (by decide))
      rw [this]; exact h1
    · obtain ⟨h1, h2, h3⟩ := I.holder ht (by rw [hb]; exact k1)
      refine I.drM ht hb I.qc (fun _ => by show 2 ≠ 1; omega) (fun u hu hut x hx => (I.ho u hu x hx).2.1) (k3 _) (k3 _) (k4.vl (fun x w ho => if_neg (fun g => (I.ho t ht x ho).2.1 (show x = q from g.1))) (fun x y hxy hv => by
        have : ((s.put ⟨q, 2, 0⟩).setB t []).val x 1 = s.val x 1 := if_neg (fun g => absurd (show (1 : Nat) = 2 from g.2) (by decide))
        rw [this]; exact hv) (fun x hx => by refine if_neg fun g => I.qc ?_; obtain ⟨g1, _⟩ := g; have g1 : x = q := g1; rw [← g1]; exact hx)) (.inl ⟨if_pos ⟨rfl, rfl⟩, ?_, fun u hu h4 => h3 u hu h4, k2⟩)
      rw [h2]
      unfold A.vw
      rw [hb]
      have e1 : (s.put ⟨q, 2, 0⟩).val q 0 = s.val q 0 := if_neg (fun g => absurd (show (0 : Nat) = 2 from g.2) (by decide))
      rw [e1]
      show some (if q = q ∧ 2 = 0 then 0 else s.val q 0) = _
      rw [if_neg (fun g => absurd g.2 (by decide))]
end Qu
end
/- The queue on the plain machine: steps that change a thread's own alone. -/
section
namespace Qu
open Qs Qg
variable {n t u : Nat} {q : Int} {sm : Prop} {s s' : A} {p : Nat → Pos} {ch : List Int} {G G' : Gh} {rg : Nat → Int} {x e : En} {r : List Int} {bf bf' : List En} {vl vl' : Int → Nat → Int} {pend : List Int} {P P' : Pos} {o o' : Nat}
theorem hasH (rg : Nat → Int) (bf : List En) (r : List Int) (h1 : 6 ≤ o) (h2 : o ≤ 24) : Has rg bf (.ta o r) := by
  unfold Has
  split
  · rename_i h; cases h; omega
  · rename_i h; cases h; omega
  · rename_i h; cases h; exact ⟨h1, h2⟩
  · rename_i h; exact absurd rfl (h o r)
theorem hasN (rg : Nat → Int) (bf : List En) (r : List Int) (h4 : o ≠ 4) (h5 : o ≠ 25) (h : o < 6 ∨ 24 < o) : ¬ Has rg bf (.ta o r) := by
  unfold Has
  split
  · rename_i h; cases h; omega
  · rename_i h; cases h; omega
  · rename_i h; cases h; omega
  · exact fun h => h
theorem pndN (rg : Nat → Int) (bf : List En) (r : List Int) (h : 4 ≤ o) (a b : Int) : ¬ Pnd rg bf (.ta o r) a b := fun g => by have := g.1; omega
theorem pndW (rg : Nat → Int) (bf : List En) (r : List Int) (h : o ≤ 3) (a b : Int) : Pnd rg bf (.ta o r) a b ↔ ⟨a, 1, b⟩ ∈ bf := ⟨fun g => g.2, fun g => ⟨h, g⟩⟩
theorem Inv.go (I : Inv n q sm s p ch G) (ht : t < n) {P' : Pos} (e1 : ∀ u, u ≠ t → s'.reg u = s.reg u) (e2 : ∀ u, u ≠ t → s'.buf u = s.buf u) (e3 : s'.val = s.val) (e4 : s'.here = s.here) (e5 : s'.reg t 5 = s.reg t 5)
    (o : own (s'.reg t) P' = own (s.reg t) (p t)) (hs : Has (s'.reg t) (s'.buf t) P' ↔ Has (s.reg t) (s.buf t) (p t)) (hv : Has (s'.reg t) (s'.buf t) P' → s'.vw t q 0 = s.vw t q 0)
    (pd : ∀ a b, Pnd (s'.reg t) (s'.buf t) P' a b ↔ Pnd (s.reg t) (s.buf t) (p t) a b) (g1 : G'.chv = G.chv) (g2 : ∀ u, u ≠ t → G'.rem u = G.rem u ∧ G'.pend u = G.pend u) (g3 : G'.rem t = remOf P')
    (L : Loc q sm (s'.reg t) (s'.buf t) s.val ch (G'.pend t) P') : Inv n q sm s' (upd p t P') ch G' := by
  have pnd : ∀ u a b, Pnd (s'.reg u) (s'.buf u) (upd p t P' u) a b ↔ Pnd (s.reg u) (s.buf u) (p u) a b := fun u a b => by
    by_cases e : u = t
    · subst e; rw [upd_same]; exact pd a b
    · rw [upd_ne _ _ e, e1 u e, e2 u e]
  have has : ∀ u, Has (s'.reg u) (s'.buf u) (upd p t P' u) ↔ Has (s.reg u) (s.buf u) (p u) := fun u => by
    by_cases e : u = t
    · subst e; rw [upd_same]; exact hs
    · rw [upd_ne _ _ e, e1 u e, e2 u e]
  have hown : ∀ u, own (s'.reg u) (upd p t P' u) = own (s.reg u) (p u) := fun u => by
    by_cases e : u = t
    · subst e; rw [upd_same]; exact o
    · rw [upd_ne _ _ e, e1 u e]
  refine ⟨by rw [e4]; exact I.hq, I.q0, I.qc, I.nd, I.ne, by rw [e4]; exact I.hc, fun u hu => ?_, fun x hx => ?_, fun u hu x hx => ?_, fun u v x hu hv h1 h2 => ?_, fun u hu => ?_, fun u hu => ?_, by rw [e3]; exact I.tail, by rw [e3]; exact I.last, by rw [g1, e3]; exact I.vals, fun u a b hu h => ?_, fun u v a b c hu hv h1 h2 => ?_, fun a b h => ?_, ?_⟩
  · by_cases e : u = t
    · subst e; rw [e5]; exact I.r5 u hu
    · rw [e1 u e]; exact I.r5 u hu
  · rw [e4] at hx
    rcases I.here x hx with h | h | ⟨u, hu, h⟩
    · exact .inl h
    · exact .inr (.inl h)
    · exact .inr (.inr ⟨u, hu, by rw [hown]; exact h⟩)
  · rw [hown] at hx; rw [e4]; exact I.ho u hu x hx
  · rw [hown] at h1 h2; exact I.oi u v x hu hv h1 h2
  · rw [e3]
    by_cases e : u = t
    · subst e; rw [upd_same]; exact L
    · rw [upd_ne _ _ e, e1 u e, e2 u e, (g2 u e).2]; exact I.loc u hu
  · by_cases e : u = t
    · subst e; rw [upd_same]; exact g3
    · rw [upd_ne _ _ e, (g2 u e).1]; exact I.rem u hu
  · rw [e3]; exact I.pn u a b hu ((pnd u a b).1 h)
  · exact I.pi u v a b c hu hv ((pnd u a b).1 h1) ((pnd v a c).1 h2)
  · rw [e3]
    rcases I.lk a b h with g | ⟨u, hu, g⟩
    · exact .inl g
    · exact .inr ⟨u, hu, (pnd u a b).2 g⟩
  · rw [e3]
    rcases I.free with ⟨h1, h2, h3⟩ | ⟨k, h1, h2, h3, h4, h5⟩
    · exact .inl ⟨h1, h2, fun u hu h => h3 u hu ((has u).1 h)⟩
    · refine .inr ⟨k, h1, (has k).2 h2, h3, ?_, fun u hu hk h => h5 u hu hk ((has u).1 h)⟩
      have : s'.vw k q 0 = s.vw k q 0 := by
        by_cases e : k = t
        · subst e; exact hv (hs.2 h2)
        · unfold A.vw; rw [e2 k e, e3]
      rw [this]; exact h4
def rset (rg : Nat → Int) (k : Nat) (v : Int) : Nat → Int := fun i => if i = k then v else rg i
theorem setR_t (s : A) (t k : Nat) (v : Int) : (s.setR t k v).reg t = rset (s.reg t) k v := by
  funext i
  show (if t = t ∧ i = k then v else s.reg t i) = if i = k then v else s.reg t i
  by_cases h : i = k
  · rw [if_pos ⟨rfl, h⟩, if_pos h]
  · rw [if_neg (fun g => h g.2), if_neg h]
theorem setR_u (s : A) {t u : Nat} (k : Nat) (v : Int) (h : u ≠ t) : (s.setR t k v).reg u = s.reg u := by
  funext i
  exact if_neg (fun g => h g.1)
theorem Inv.goR (I : Inv n q sm s p ch G) (ht : t < n) (hp : p t = P) (P' : Pos) (k : Nat) (v : Int) (hk : 5 ≠ k) (o : own (rset (s.reg t) k v) P' = own (s.reg t) P) (hs : Has (rset (s.reg t) k v) (s.buf t) P' ↔ Has (s.reg t) (s.buf t) P)
    (pd : ∀ a b, Pnd (rset (s.reg t) k v) (s.buf t) P' a b ↔ Pnd (s.reg t) (s.buf t) P a b) (g : remOf P' = remOf P) (L : Loc q sm (rset (s.reg t) k v) (s.buf t) s.val ch (G.pend t) P') : Inv n q sm (s.setR t k v) (upd p t P') ch G := by
  subst hp
  have hr := setR_t s t k v
  exact I.go ht (fun u hu => setR_u s k v hu) (fun _ _ => rfl) rfl rfl (by rw [hr]; exact if_neg hk) (by rw [hr]; exact o) (by rw [hr]; exact hs) (fun _ => rfl) (by rw [hr]; exact pd) rfl (fun _ _ => ⟨rfl, rfl⟩) (by rw [I.rem t ht, g]) (by rw [hr]; exact L)
theorem Inv.go0 (I : Inv n q sm s p ch G) (ht : t < n) (hp : p t = P) (P' : Pos) (o : own (s.reg t) P' = own (s.reg t) P) (hs : Has (s.reg t) (s.buf t) P' ↔ Has (s.reg t) (s.buf t) P)
    (pd : ∀ a b, Pnd (s.reg t) (s.buf t) P' a b ↔ Pnd (s.reg t) (s.buf t) P a b) (g : remOf P' = remOf P) (L : Loc q sm (s.reg t) (s.buf t) s.val ch (G.pend t) P') : Inv n q sm s (upd p t P') ch G := by
  subst hp
  exact I.go ht (fun _ _ => rfl) (fun _ _ => rfl) rfl rfl rfl o hs (fun _ => rfl) pd rfl (fun _ _ => ⟨rfl, rfl⟩) (by rw [I.rem t ht, g]) L
theorem Inv.goP (I : Inv n q sm s p ch G) (ht : t < n) (hp : p t = P) (P' : Pos) (e : En) (o : own (s.reg t) P' = own (s.reg t) P) (hs : Has (s.reg t) (s.buf t ++ [e]) P' ↔ Has (s.reg t) (s.buf t) P) (hv : Has (s.reg t) (s.buf t ++ [e]) P' → ¬ (e.a = q ∧ e.w = 0))
    (pd : ∀ a b, Pnd (s.reg t) (s.buf t ++ [e]) P' a b ↔ Pnd (s.reg t) (s.buf t) P a b) (g : remOf P' = remOf P) (L : Loc q sm (s.reg t) (s.buf t ++ [e]) s.val ch (G.pend t) P') : Inv n q sm (s.setB t (s.buf t ++ [e])) (upd p t P') ch G := by
  subst hp
  have hb : (s.setB t (s.buf t ++ [e])).buf t = s.buf t ++ [e] := if_pos rfl
  refine I.go ht (fun _ _ => rfl) (fun u hu => if_neg hu) rfl rfl rfl o (by rw [hb]; exact hs) (fun h => ?_) (by rw [hb]; exact pd) rfl (fun _ _ => ⟨rfl, rfl⟩) (by rw [I.rem t ht, g]) (by rw [hb]; exact L)
  rw [hb] at h
  unfold A.vw
  rw [hb]
  unfold lk1
  rw [List.foldl_append]
  exact if_neg (hv h)
/-- Where an op begins. -/
def Start (r : List Int) (P : Pos) : Prop := remOf P = r ∧ (P = .fin ∨ (∃ v l, P = .pu 0 v l) ∨ ∃ l, P = .ta 0 l)
theorem Start.own (h : Start r P) (rg : Nat → Int) : own rg P = none := by
  rcases h.2 with h | ⟨v, l, h⟩ | ⟨l, h⟩ <;> (subst h; rfl)
theorem Start.has (h : Start r P) (rg : Nat → Int) (bf : List En) : ¬ Has rg bf P := by
  rcases h.2 with h | ⟨v, l, h⟩ | ⟨l, h⟩
  · subst h; exact fun h => h
  · subst h; exact fun h => h
  · subst h; exact hasN _ _ _ (by omega) (by omega) (by omega)
theorem Start.pnd (h : Start r P) (rg : Nat → Int) (bf : List En) (a b : Int) : Pnd rg bf P a b ↔ ⟨a, 1, b⟩ ∈ bf := by
  rcases h.2 with h | ⟨v, l, h⟩ | ⟨l, h⟩
  · subst h; exact Iff.rfl
  · subst h; exact Iff.rfl
  · subst h; exact pndW _ _ _ (by omega) a b
theorem Start.loc (h : Start r P) (h1 : Lk bf) (h2 : pend = []) : Loc q sm rg bf vl ch pend P := by
  rcases h.2 with h | ⟨v, l, h⟩ | ⟨l, h⟩ <;> (subst h; exact ⟨h1, h2⟩)
/-- Behind a place: the next one. -/
def Nxt : Pos → Pos → Prop
  | .pu 7 _ r, P' => Start r P'
  | .ta 29 r, P' => Start r P'
  | .pu o v r, P' => P' = .pu (o + 1) v r
  | .ta o r, P' => P' = .ta (o + 1) r
  | .fin, _ => False
end Qu
end
/- What holds at a place when the chain changes. -/
section
namespace Qu
open Qs Qg
variable {q : Int} {sm : Prop} {rg : Nat → Int} {bf : List En} {vl : Int → Nat → Int} {ch pend : List Int} {P : Pos}
theorem app_some {ch : List Int} {i : Nat} {a : Int} (h : ch[i]? = some a) (x : Int) : (ch ++ [x])[i]? = some a := by
  rw [List.getElem?_append_left (List.getElem?_eq_some_iff.1 h).1]; exact h
theorem Loc.app (h : Loc q sm rg bf vl ch pend P) (x : Int) : Loc q sm rg bf vl (ch ++ [x]) pend P := by
  cases P with
  | fin => exact h
  | pu o n r =>
    match o, h with
    | 0, h => exact h
    | 1, h => exact h
    | 2, h => exact h
    | 3, h => exact h
    | 4, h => exact h
    | 5, h => exact h
    | 6, h => exact h
    | 7, h => exact h
    | _ + 8, h => exact h
  | ta o r =>
    match o, h with
    | 0, h => exact h
    | 1, h => exact h
    | 2, h => exact h
    | 3, h => exact h
    | 4, h => exact h
    | 5, h => exact h
    | 6, h => exact h
    | 7, h => exact h
    | 8, h => exact h
    | 9, h => exact ⟨h.1, h.2.1, app_some h.2.2 x⟩
    | 10, h => exact ⟨h.1, h.2.1, app_some h.2.2.1 x, h.2.2.2.imp id fun g => ⟨app_some g.1 x, g.2⟩⟩
    | 11, h => exact ⟨h.1, h.2.1, app_some h.2.2.1 x, app_some h.2.2.2.1 x, h.2.2.2.2⟩
    | 12, h => exact ⟨h.1, app_some h.2.1 x, h.2.2⟩
    | 13, h => exact h
    | 14, h => exact h
    | 15, h => exact h
    | 16, h => exact h
    | 17, h => exact h
    | 18, h => exact h
    | 19, h => exact h
    | 20, h => exact h
    | 21, h => exact h
    | 22, h => exact h
    | 23, h => exact h
    | 24, h => exact h
    | 25, h => exact h
    | 26, h => exact h
    | 27, h => exact h
    | 28, h => exact h
    | 29, h => exact h
    | _ + 30, h => exact h
theorem Loc.nch (h : Loc q sm rg bf vl ch pend P) (hn : ¬ Has rg bf P) (ch' : List Int) : Loc q sm rg bf vl ch' pend P := by
  cases P with
  | fin => exact h
  | pu o n r =>
    match o, h with
    | 0, h => exact h
    | 1, h => exact h
    | 2, h => exact h
    | 3, h => exact h
    | 4, h => exact h
    | 5, h => exact h
    | 6, h => exact h
    | 7, h => exact h
    | _ + 8, h => exact h
  | ta o r =>
    match o, h, hn with
    | 0, h, hn => exact h
    | 1, h, hn => exact h
    | 2, h, hn => exact h
    | 3, h, hn => exact h
    | 4, h, hn => exact h
    | 5, h, hn => exact h
    | 6, h, hn => exact h
    | 7, h, hn => exact h
    | 8, h, hn => exact h
    | 9, h, hn => exact absurd (hasH _ _ _ (by omega) (by omega)) hn
    | 10, h, hn => exact absurd (hasH _ _ _ (by omega) (by omega)) hn
    | 11, h, hn => exact absurd (hasH _ _ _ (by omega) (by omega)) hn
    | 12, h, hn => exact absurd (hasH _ _ _ (by omega) (by omega)) hn
    | 13, h, hn => exact h
    | 14, h, hn => exact h
    | 15, h, hn => exact h
    | 16, h, hn => exact h
    | 17, h, hn => exact h
    | 18, h, hn => exact h
    | 19, h, hn => exact h
    | 20, h, hn => exact h
    | 21, h, hn => exact h
    | 22, h, hn => exact h
    | 23, h, hn => exact h
    | 24, h, hn => exact h
    | 25, h, hn => exact h
    | 26, h, hn => exact h
    | 27, h, hn => exact h
    | 28, h, hn => exact h
    | 29, h, hn => exact h
    | _ + 30, h, hn => exact h
end Qu
end
/- The queue on the plain machine: a cell that is given, or freed. -/
section
namespace Qu
open Qs Qg
variable {n t u : Nat} {q : Int} {sm : Prop} {s s' : A} {p : Nat → Pos} {ch : List Int} {G G' : Gh} {rg : Nat → Int} {x e : En} {r : List Int} {P P' : Pos}
theorem Inv.mem (I : Inv n q sm s p ch G) (ht : t < n) {a : Int} {P' : Pos} (haq : q ≠ a) (hac : ¬ a ∈ ch) (hoo : ∀ u, u < n → u ≠ t → ∀ x, own (s.reg u) (p u) = some x → x ≠ a)
    (e1 : ∀ u, u ≠ t → s'.reg u = s.reg u) (e5 : s'.reg t 5 = s.reg t 5) (e2 : s'.buf = s.buf) (e3 : ∀ x w, x ≠ a → s'.val x w = s.val x w) (e4 : ∀ x, x ≠ a → s'.here x = s.here x)
    (o1 : ∀ x, own (s'.reg t) P' = some x → x = a ∧ s'.here a = true) (o2 : s'.here a = true → own (s'.reg t) P' = some a) (o3 : ∀ x, own (s.reg t) (p t) = some x → x = a) (hs : Has (s'.reg t) (s.buf t) P' ↔ Has (s.reg t) (s.buf t) (p t))
    (pd : ∀ a b, Pnd (s'.reg t) (s.buf t) P' a b ↔ Pnd (s.reg t) (s.buf t) (p t) a b) (g3 : remOf P' = remOf (p t)) (L : Loc q sm (s'.reg t) (s.buf t) s'.val ch (G.pend t) P') : Inv n q sm s' (upd p t P') ch G := by
  have pnd : ∀ u a b, Pnd (s'.reg u) (s'.buf u) (upd p t P' u) a b ↔ Pnd (s.reg u) (s.buf u) (p u) a b := fun u a b => by
    rw [e2]
    by_cases e : u = t
    · subst e; rw [upd_same]; exact pd a b
    · rw [upd_ne _ _ e, e1 u e]
  have has : ∀ u, Has (s'.reg u) (s'.buf u) (upd p t P' u) ↔ Has (s.reg u) (s.buf u) (p u) := fun u => by
    rw [e2]
    by_cases e : u = t
    · subst e; rw [upd_same]; exact hs
    · rw [upd_ne _ _ e, e1 u e]
  have hcn : ∀ x, x ∈ ch → x ≠ a := fun x hx h => hac (h ▸ hx)
  refine ⟨by rw [e4 _ haq]; exact I.hq, I.q0, I.qc, I.nd, I.ne, fun x hx => ⟨(I.hc x hx).1, by rw [e4 _ (hcn x hx)]; exact (I.hc x hx).2⟩, fun u hu => ?_, fun x hx => ?_, fun u hu x hx => ?_, fun u v x hu hv h1 h2 => ?_, fun u hu => ?_, fun u hu => ?_, by rw [e3 _ _ haq]; exact I.tail, fun c hc => ?_, ?_, fun u a b hu h => ?_, fun u v a b c hu hv h1 h2 => ?_, fun a' b h => ?_, ?_⟩
  · by_cases e : u = t
    · subst e; rw [e5]; exact I.r5 u hu
    · rw [e1 u e]; exact I.r5 u hu
  · by_cases e : x = a
    · subst e
      exact .inr (.inr ⟨t, ht, by rw [upd_same]; exact o2 hx⟩)
    · rw [e4 x e] at hx
      rcases I.here x hx with h | h | ⟨u, hu, h⟩
      · exact .inl h
      · exact .inr (.inl h)
      · have e6 : u ≠ t := fun e6 => by subst e6; exact e (o3 x h)
        exact .inr (.inr ⟨u, hu, by rw [upd_ne _ _ e6, e1 u e6]; exact h⟩)
  · by_cases e : u = t
    · subst e
      rw [upd_same] at hx
      obtain ⟨rfl, h⟩ := o1 x hx
      exact ⟨h, fun g => haq g.symm, hac⟩
    · rw [upd_ne _ _ e, e1 u e] at hx
      rw [e4 x (hoo u hu e x hx)]
      exact I.ho u hu x hx
  · by_cases e : u = t
    · by_cases e' : v = t
      · exact e.trans e'.symm
      · subst e
        rw [upd_same] at h1
        rw [upd_ne _ _ e', e1 v e'] at h2
        exact absurd (o1 x h1).1 (hoo v hv e' x h2)
    · rw [upd_ne _ _ e, e1 u e] at h1
      by_cases e' : v = t
      · subst e'
        rw [upd_same] at h2
        exact absurd (o1 x h2).1 (hoo u hu e x h1)
      · rw [upd_ne _ _ e', e1 v e'] at h2
        exact I.oi u v x hu hv h1 h2
  · by_cases e : u = t
    · subst e; rw [upd_same, e2]; exact L
    · rw [upd_ne _ _ e, e1 u e, e2]
      exact (I.loc u hu).vl (fun x w ho => e3 x w (hoo u hu e x ho)) (fun x y hxy hv => by rw [e3 x 1 (hcn x hxy.memL)]; exact hv) (fun x hx => e3 x 0 (hcn x hx))
  · by_cases e : u = t
    · subst e; rw [upd_same, I.rem u hu, g3]
    · rw [upd_ne _ _ e]; exact I.rem u hu
  · rw [e3 c 1 (hcn c (List.mem_of_getLast? hc))]; exact I.last c hc
  · rw [I.vals]
    exact List.map_congr_left fun x hx => (e3 x 0 (hcn x (List.mem_of_mem_tail hx))).symm
  · obtain ⟨g1, g2⟩ := I.pn u a b hu ((pnd u a b).1 h)
    exact ⟨g1, by rw [e3 _ _ (hcn a g1.memL)]; exact g2⟩
  · exact I.pi u v a b c hu hv ((pnd u a b).1 h1) ((pnd v a c).1 h2)
  · rw [e3 a' 1 (hcn a' h.memL)]
    rcases I.lk a' b h with g | ⟨u, hu, g⟩
    · exact .inl g
    · exact .inr ⟨u, hu, (pnd u a' b).2 g⟩
  · rw [e3 q 2 haq, e3 q 0 haq]
    rcases I.free with ⟨h1, h2, h3⟩ | ⟨k, h1, h2, h3, h4, h5⟩
    · exact .inl ⟨h1, h2, fun u hu h => h3 u hu ((has u).1 h)⟩
    · refine .inr ⟨k, h1, (has k).2 h2, h3, ?_, fun u hu hk h => h5 u hu hk ((has u).1 h)⟩
      have : s'.vw k q 0 = s.vw k q 0 := by unfold A.vw; rw [e2, e3 q 0 haq]
      rw [this]; exact h4
/-- A cell is given. -/
theorem Inv.pu0 (I : Inv n q sm s p ch G) (ht : t < n) {v : Int} (hp : p t = .pu 0 v r) {na : Int} (h0 : 0 < na) (hh : s.here na = false) : Inv n q sm ((s.give na).setR t 3 na) (upd p t (.pu 1 v r)) ch G := by
  have L := I.loc t ht
  rw [hp] at L
  have hr := setR_t (s.give na) t 3 na
  have h3 : ((s.give na).setR t 3 na).reg t 3 = na := by rw [hr]; rfl
  have hnh : ∀ x, s.here x = true → x ≠ na := fun x hx h => by rw [h, hh] at hx; cases hx
  have hv : ((s.give na).setR t 3 na).val na 1 = 0 := if_pos rfl
  have ho : own (((s.give na).setR t 3 na).reg t) (.pu 1 v r) = some na := by
    show (if _ = 0 then none else some _) = _
    rw [h3, if_neg (by omega)]
  refine I.mem ht (a := na) (hnh q I.hq) (fun h => hnh na (I.hc na h).2 rfl) (fun u hu _ x hx => hnh x (I.ho u hu x hx).1) (fun u hu => setR_u (s.give na) 3 na hu) (by rw [hr]; rfl) rfl (fun x w hx => if_neg hx) (fun x hx => if_neg hx)
    (fun x hx => ?_) (fun _ => ho) (fun x hx => by rw [hp] at hx; cases hx) (by rw [hp]; exact Iff.rfl) (by rw [hp]; exact fun _ _ => Iff.rfl) (by rw [hp]; rfl) ⟨L.1, L.2, fun _ => by rw [h3]; exact hv, fun _ => by rw [h3]; omega⟩
  rw [ho] at hx
  cases hx
  exact ⟨rfl, if_pos rfl⟩
/-- No cell is given. -/
theorem Inv.pu0n (I : Inv n q sm s p ch G) (ht : t < n) {v : Int} (hp : p t = .pu 0 v r) (hs : ¬ sm) : Inv n q sm (s.setR t 3 0) (upd p t (.pu 1 v r)) ch G := by
  have L := I.loc t ht
  rw [hp] at L
  exact I.goR ht hp _ 3 0 (by omega) rfl Iff.rfl (fun _ _ => Iff.rfl) rfl ⟨L.1, L.2, fun g => absurd rfl g, fun g => absurd g hs⟩
/-- A cell is freed. -/
theorem Inv.ta28 (I : Inv n q sm s p ch G) (ht : t < n) (hp : p t = .ta 28 r) : s.here (s.reg t 3) = true ∧ Inv n q sm (s.free (s.reg t 3)) (upd p t (.ta 29 r)) ch G := by
  have L := I.loc t ht
  rw [hp] at L
  have ho : own (s.reg t) (p t) = some (s.reg t 3) := by rw [hp]; rfl
  obtain ⟨h1, h2, h3⟩ := I.ho t ht _ ho
  refine ⟨h1, I.mem ht (a := s.reg t 3) (fun h => h2 h.symm) h3 (fun u hu hut x hx hxa => hut (I.oi u t x hu ht hx (by rw [hxa]; exact ho))) (fun u hu => rfl) rfl rfl (fun x w hx => if_neg hx) (fun x hx => if_neg hx)
    (fun x hx => by cases hx) (fun h => ?_) (fun x hx => by rw [ho] at hx; cases hx; rfl) ?_ (fun a b => ?_) (by rw [hp]; rfl) ⟨L.1, L.2.2⟩⟩
  · have : (s.free (s.reg t 3)).here (s.reg t 3) = false := if_pos rfl
    rw [this] at h; cases h
  · rw [hp]; exact ⟨fun h => absurd h (hasN _ _ _ (by omega) (by omega) (by omega)), fun h => absurd h (hasN _ _ _ (by omega) (by omega) (by omega))⟩
  · rw [hp]; exact ⟨fun h => absurd h (pndN _ _ _ (by omega) _ _), fun h => absurd h (pndN _ _ _ (by omega) _ _)⟩
end Qu
end
/- The queue on the plain machine: steps on registers, jumps, stores. -/
section
namespace Qu
open Qs Qg
variable {n t u : Nat} {q : Int} {sm : Prop} {s s' : A} {p : Nat → Pos} {ch : List Int} {G G' : Gh} {rg : Nat → Int} {x e : En} {r : List Int} {P P' : Pos} {o o' : Nat} {v : Int}
theorem iffN {a b : Prop} (h : ¬ a) (g : ¬ b) : a ↔ b := ⟨fun x => absurd x h, fun x => absurd x g⟩
theorem iffT {a b : Prop} (h : a) (g : b) : a ↔ b := ⟨fun _ => g, fun _ => h⟩
/-- From a place of who waits for the lock to another one. -/
theorem Inv.tW (I : Inv n q sm s p ch G) (ht : t < n) (hp : p t = .ta o r) (ho : o ≤ 3) (ho' : o' ≤ 3) (L : Loc q sm (s.reg t) (s.buf t) s.val ch (G.pend t) (.ta o r) → Loc q sm (s.reg t) (s.buf t) s.val ch (G.pend t) (.ta o' r)) (e1 : own (s.reg t) (.ta o r) = none) (e2 : own (s.reg t) (.ta o' r) = none) : Inv n q sm s (upd p t (.ta o' r)) ch G :=
  I.go0 ht hp _ (by rw [e1, e2]) (iffN (hasN _ _ _ (by omega) (by omega) (by omega)) (hasN _ _ _ (by omega) (by omega) (by omega))) (fun a b => by rw [pndW _ _ _ ho, pndW _ _ _ ho']) rfl (L (by have := I.loc t ht; rw [hp] at this; exact this))
theorem Inv.tWR (I : Inv n q sm s p ch G) (ht : t < n) (hp : p t = .ta o r) (ho : o ≤ 3) (ho' : o' ≤ 3) (k : Nat) (v : Int) (hk : 5 ≠ k) (L : Loc q sm (s.reg t) (s.buf t) s.val ch (G.pend t) (.ta o r) → Loc q sm (rset (s.reg t) k v) (s.buf t) s.val ch (G.pend t) (.ta o' r)) (e1 : own (s.reg t) (.ta o r) = none) (e2 : own (rset (s.reg t) k v) (.ta o' r) = none) : Inv n q sm (s.setR t k v) (upd p t (.ta o' r)) ch G :=
  I.goR ht hp _ k v hk (by rw [e1, e2]) (iffN (hasN _ _ _ (by omega) (by omega) (by omega)) (hasN _ _ _ (by omega) (by omega) (by omega))) (fun a b => by rw [pndW _ _ _ ho, pndW _ _ _ ho']) rfl (L (by have := I.loc t ht; rw [hp] at this; exact this))
/-- From a place of who has the lock to another one. -/
theorem Inv.tH (I : Inv n q sm s p ch G) (ht : t < n) (hp : p t = .ta o r) (h1 : 6 ≤ o) (h2 : o ≤ 24) (h1' : 6 ≤ o') (h2' : o' ≤ 24) (L : Loc q sm (s.reg t) (s.buf t) s.val ch (G.pend t) (.ta o r) → Loc q sm (s.reg t) (s.buf t) s.val ch (G.pend t) (.ta o' r)) (e : own (s.reg t) (.ta o' r) = own (s.reg t) (.ta o r)) : Inv n q sm s (upd p t (.ta o' r)) ch G :=
  I.go0 ht hp _ e (iffT (hasH _ _ _ h1' h2') (hasH _ _ _ h1 h2)) (fun a b => iffN (pndN _ _ _ (by omega) _ _) (pndN _ _ _ (by omega) _ _)) rfl (L (by have := I.loc t ht; rw [hp] at this; exact this))
theorem Inv.tHR (I : Inv n q sm s p ch G) (ht : t < n) (hp : p t = .ta o r) (h1 : 6 ≤ o) (h2 : o ≤ 24) (h1' : 6 ≤ o') (h2' : o' ≤ 24) (k : Nat) (v : Int) (hk : 5 ≠ k) (L : Loc q sm (s.reg t) (s.buf t) s.val ch (G.pend t) (.ta o r) → Loc q sm (rset (s.reg t) k v) (s.buf t) s.val ch (G.pend t) (.ta o' r)) (e : own (rset (s.reg t) k v) (.ta o' r) = own (s.reg t) (.ta o r)) : Inv n q sm (s.setR t k v) (upd p t (.ta o' r)) ch G :=
  I.goR ht hp _ k v hk e (iffT (hasH _ _ _ h1' h2') (hasH _ _ _ h1 h2)) (fun a b => iffN (pndN _ _ _ (by omega) _ _) (pndN _ _ _ (by omega) _ _)) rfl (L (by have := I.loc t ht; rw [hp] at this; exact this))
section pu
theorem Inv.pu1 (I : Inv n q sm s p ch G) (ht : t < n) (hp : p t = .pu 1 v r) (h0 : s.reg t 3 ≠ 0) : Inv n q sm s (upd p t (.pu 2 v r)) ch G := by
  have L := I.loc t ht
  rw [hp] at L
  exact I.go0 ht hp _ (by show some _ = if _ then _ else _; rw [if_neg h0]) Iff.rfl (fun _ _ => Iff.rfl) rfl ⟨L.1, L.2.1, h0, L.2.2.1 h0⟩
theorem Inv.pu1j (I : Inv n q sm s p ch G) (ht : t < n) (hp : p t = .pu 1 v r) (h0 : s.reg t 3 = 0) : ¬ sm ∧ Ev n G { G with rem := upd G.rem t r, lost := v :: G.lost } ∧ Inv n q sm s (upd p t (.pu 7 v r)) ch { G with rem := upd G.rem t r, lost := v :: G.lost } := by
  have L := I.loc t ht
  rw [hp] at L
  refine ⟨fun h => L.2.2.2 h h0, .lose G t v r ht (by rw [I.rem t ht, hp]; rfl), ?_⟩
  exact I.go ht (fun _ _ => rfl) (fun _ _ => rfl) rfl rfl rfl (by rw [hp]; show none = if _ then _ else _; rw [if_pos h0]) (by rw [hp]; exact Iff.rfl) (fun _ => rfl) (by rw [hp]; exact fun _ _ => Iff.rfl) rfl (fun u hu => ⟨upd_ne _ _ hu, rfl⟩) (upd_same _ _ _) ⟨L.1, L.2.1⟩
theorem Inv.pu2 (I : Inv n q sm s p ch G) (ht : t < n) (hp : p t = .pu 2 v r) : Inv n q sm (s.setR t 0 v) (upd p t (.pu 3 v r)) ch G := by
  have L := I.loc t ht
  rw [hp] at L
  exact I.goR ht hp _ 0 v (by omega) rfl Iff.rfl (fun _ _ => Iff.rfl) rfl ⟨L.1, L.2.1, L.2.2.1, L.2.2.2, rfl⟩
theorem Inv.pu3 (I : Inv n q sm s p ch G) (ht : t < n) (hp : p t = .pu 3 v r) : Inv n q sm (s.setB t (s.buf t ++ [⟨s.reg t 3, 0, s.reg t 0⟩])) (upd p t (.pu 4 v r)) ch G := by
  have L := I.loc t ht
  rw [hp] at L
  obtain ⟨L1, L2, L3, L4, L5⟩ := L
  refine I.goP ht hp _ _ rfl Iff.rfl (fun h => h.elim) (fun a b => ?_) rfl ⟨L2, L3, L4, ?_⟩
  · show (⟨a, 1, b⟩ : En) ∈ s.buf t ++ [⟨s.reg t 3, 0, s.reg t 0⟩] ↔ (⟨a, 1, b⟩ : En) ∈ s.buf t
    simp
  · rw [L5]
    rcases L1 with h | ⟨a, b, h⟩
    · rw [h]; exact .inr (.inl rfl)
    · rw [h]; exact .inr (.inr ⟨a, b, rfl⟩)
theorem Inv.pu4 (I : Inv n q sm s p ch G) (ht : t < n) (hp : p t = .pu 4 v r) : Inv n q sm (s.setR t 0 (s.reg t 3)) (upd p t (.pu 5 v r)) ch G := by
  have L := I.loc t ht
  rw [hp] at L
  exact I.goR ht hp _ 0 _ (by omega) rfl Iff.rfl (fun _ _ => Iff.rfl) rfl ⟨L.1, L.2.1, L.2.2.1, rfl, L.2.2.2⟩
theorem Inv.pu6 (I : Inv n q sm s p ch G) (ht : t < n) (hp : p t = .pu 6 v r) : s.here (s.reg t 0) = true ∧ Inv n q sm (s.setB t (s.buf t ++ [⟨s.reg t 0, 1, s.reg t 3⟩])) (upd p t (.pu 7 v r)) ch G := by
  have L := I.loc t ht
  rw [hp] at L
  obtain ⟨L1, L2⟩ := L
  have hpn := I.pn t (s.reg t 0) (s.reg t 3) ht (by rw [hp]; exact ⟨rfl, rfl⟩)
  refine ⟨(I.hc _ hpn.1.memL).2, I.goP ht hp _ _ rfl Iff.rfl (fun h => h.elim) (fun a b => ?_) rfl ⟨.inr ⟨_, _, by rw [L1]; rfl⟩, L2⟩⟩
  show (⟨a, 1, b⟩ : En) ∈ s.buf t ++ [⟨s.reg t 0, 1, s.reg t 3⟩] ↔ (a = s.reg t 0 ∧ b = s.reg t 3)
  rw [L1]; simp
theorem Inv.pu7 (I : Inv n q sm s p ch G) (ht : t < n) (hp : p t = .pu 7 v r) (h : Start r P') : Inv n q sm s (upd p t P') ch G := by
  have L := I.loc t ht
  rw [hp] at L
  exact I.go0 ht hp _ (h.own _) (iffN (h.has _ _) (fun h => h)) (fun a b => h.pnd _ _ _ _) h.1 (h.loc L.1 L.2)
end pu
section ta
theorem Inv.ta0 (I : Inv n q sm s p ch G) (ht : t < n) (hp : p t = .ta 0 r) : Inv n q sm s (upd p t (.ta 1 r)) ch G := I.tW ht hp (by omega) (by omega) (fun L => L) rfl rfl
theorem Inv.ta1 (I : Inv n q sm s p ch G) (ht : t < n) (hp : p t = .ta 1 r) : Inv n q sm (s.setR t 0 0) (upd p t (.ta 2 r)) ch G := I.tWR ht hp (by omega) (by omega) 0 0 (by omega) (fun L => ⟨L.1, L.2, rfl⟩) rfl rfl
theorem Inv.ta2 (I : Inv n q sm s p ch G) (ht : t < n) (hp : p t = .ta 2 r) : Inv n q sm (s.setR t 1 1) (upd p t (.ta 3 r)) ch G := I.tWR ht hp (by omega) (by omega) 1 1 (by omega) (fun L => ⟨L.1, L.2.1, L.2.2, rfl⟩) rfl rfl
theorem Inv.ta3n (I : Inv n q sm s p ch G) (ht : t < n) (hp : p t = .ta 3 r) (hb : s.buf t = []) (h : s.val q 2 ≠ 0) : Inv n q sm (s.setR t 0 (s.val q 2)) (upd p t (.ta 4 r)) ch G := by
  have L := I.loc t ht
  rw [hp] at L
  refine I.goR ht hp _ 0 _ (by omega) rfl (iffN h (hasN _ _ _ (by omega) (by omega) (by omega))) (fun a b => iffN (pndN _ _ _ (by omega) _ _) ?_) rfl ⟨hb, L.2.1⟩
  rw [pndW _ _ _ (by omega), hb]; simp
theorem Inv.ta4j (I : Inv n q sm s p ch G) (ht : t < n) (hp : p t = .ta 4 r) (h : s.reg t 0 = 0) : Inv n q sm s (upd p t (.ta 6 r)) ch G := by
  have L := I.loc t ht
  rw [hp] at L
  exact I.go0 ht hp _ rfl (iffT (hasH _ _ _ (by omega) (by omega)) h) (fun a b => iffN (pndN _ _ _ (by omega) _ _) (pndN _ _ _ (by omega) _ _)) rfl L
theorem Inv.ta4 (I : Inv n q sm s p ch G) (ht : t < n) (hp : p t = .ta 4 r) (h : s.reg t 0 ≠ 0) : Inv n q sm s (upd p t (.ta 5 r)) ch G := by
  have L := I.loc t ht
  rw [hp] at L
  exact I.go0 ht hp _ rfl (iffN (hasN _ _ _ (by omega) (by omega) (by omega)) h) (fun a b => iffN (pndN _ _ _ (by omega) _ _) (pndN _ _ _ (by omega) _ _)) rfl L
theorem Inv.ta5 (I : Inv n q sm s p ch G) (ht : t < n) (hp : p t = .ta 5 r) : Inv n q sm s (upd p t (.ta 0 r)) ch G := by
  have L := I.loc t ht
  rw [hp] at L
  refine I.go0 ht hp _ rfl (iffN (hasN _ _ _ (by omega) (by omega) (by omega)) (hasN _ _ _ (by omega) (by omega) (by omega))) (fun a b => iffN ?_ (pndN _ _ _ (by omega) _ _)) rfl ⟨.inl L.1, L.2⟩
  rw [pndW _ _ _ (by omega), L.1]; simp
theorem Inv.ta6 (I : Inv n q sm s p ch G) (ht : t < n) (hp : p t = .ta 6 r) : Inv n q sm s (upd p t (.ta 7 r)) ch G := I.tH ht hp (by omega) (by omega) (by omega) (by omega) (fun L => L) rfl
theorem Inv.ta7 (I : Inv n q sm s p ch G) (ht : t < n) (hp : p t = .ta 7 r) : Inv n q sm s (upd p t (.ta 8 r)) ch G := I.tH ht hp (by omega) (by omega) (by omega) (by omega) (fun L => L) rfl
theorem Inv.hold (I : Inv n q sm s p ch G) (ht : t < n) (hp : p t = .ta o r) (h1 : 6 ≤ o) (h2 : o ≤ 24) : s.val q 2 = 1 ∧ ch.head? = some (s.vw t q 0) ∧ ∀ u, u < n → u ≠ t → ¬ Has (s.reg u) (s.buf u) (p u) := I.holder ht (by rw [hp]; exact hasH _ _ _ h1 h2)
theorem vw_nil (hb : s.buf t = []) (x : Int) (w : Nat) : s.vw t x w = s.val x w := by unfold A.vw; rw [hb]; rfl
theorem Inv.ta8 (I : Inv n q sm s p ch G) (ht : t < n) (hp : p t = .ta 8 r) : Inv n q sm (s.setR t 0 (s.vw t q 0)) (upd p t (.ta 9 r)) ch G := by
  obtain ⟨_, h, _⟩ := I.hold ht hp (by omega) (by omega)
  exact I.tHR ht hp (by omega) (by omega) (by omega) (by omega) 0 _ (by omega) (fun L => ⟨L.1, L.2, by rw [← List.head?_eq_getElem?]; exact h⟩) rfl
theorem Inv.ta9 (I : Inv n q sm s p ch G) (ht : t < n) (hp : p t = .ta 9 r) : s.here (s.reg t 0) = true ∧ Inv n q sm (s.setR t 2 (s.vw t (s.reg t 0) 1)) (upd p t (.ta 10 r)) ch G := by
  have L := I.loc t ht
  rw [hp] at L
  obtain ⟨L1, L2, L3⟩ := L
  have hm := List.mem_of_getElem? L3
  refine ⟨(I.hc _ hm).2, I.tHR ht hp (by omega) (by omega) (by omega) (by omega) 2 _ (by omega) (fun _ => ⟨L1, L2, L3, ?_⟩) rfl⟩
  show s.vw t (s.reg t 0) 1 = 0 ∨ ch[1]? = some (s.vw t (s.reg t 0) 1) ∧ s.val (s.reg t 0) 1 = s.vw t (s.reg t 0) 1
  rw [vw_nil L1]
  by_cases h : s.val (s.reg t 0) 1 = 0
  · exact .inl h
  · right
    refine ⟨?_, rfl⟩
    cases e : ch[1]? with
    | none =>
      refine absurd (I.last _ ?_) h
      rw [List.getLast?_eq_getElem?]
      have := List.getElem?_eq_none_iff.1 e
      have := (List.getElem?_eq_some_iff.1 L3).1
      rw [show ch.length - 1 = 0 by omega]; exact L3
    | some b =>
      have hx : Nx ch (s.reg t 0) b := ⟨0, L3, e⟩
      rcases I.lk _ _ hx with g | ⟨u, hu, g⟩
      · rw [g]
      · exact absurd (I.pn u _ _ hu g).2 h
theorem Inv.ta10j (I : Inv n q sm s p ch G) (ht : t < n) (hp : p t = .ta 10 r) : Inv n q sm s (upd p t (.ta 15 r)) ch G := I.tH ht hp (by omega) (by omega) (by omega) (by omega) (fun L => ⟨L.1, L.2.1⟩) rfl
theorem Inv.ta10 (I : Inv n q sm s p ch G) (ht : t < n) (hp : p t = .ta 10 r) (h : s.reg t 2 ≠ 0) : Inv n q sm s (upd p t (.ta 11 r)) ch G := I.tH ht hp (by omega) (by omega) (by omega) (by omega) (fun L => ⟨L.1, L.2.1, L.2.2.1, (L.2.2.2.resolve_left h).1, (L.2.2.2.resolve_left h).2⟩) rfl
theorem Inv.ta12 (I : Inv n q sm s p ch G) (ht : t < n) (hp : p t = .ta 12 r) : s.here (s.reg t 2) = true ∧ Inv n q sm (s.setR t 4 (s.vw t (s.reg t 2) 0)) (upd p t (.ta 13 r)) ch G := by
  have L := I.loc t ht
  rw [hp] at L
  obtain ⟨L1, L2, L3, L4⟩ := L
  have hm := List.mem_of_getElem? L2
  refine ⟨(I.hc _ hm).2, I.tHR ht hp (by omega) (by omega) (by omega) (by omega) 4 _ (by omega) (fun _ => ⟨L1.imp id fun g => ⟨_, g⟩, ?_, L4⟩) rfl⟩
  show G.pend t = [s.vw t (s.reg t 2) 0]
  rw [L3]
  congr 1
  unfold A.vw
  rcases L1 with g | g
  · rw [g]; rfl
  · rw [g]
    refine Eq.symm (if_neg fun g => I.qc ?_)
    obtain ⟨g1, _⟩ := g
    have g1 : q = s.reg t 2 := g1
    rw [g1]; exact hm
theorem Inv.ta13 (I : Inv n q sm s p ch G) (ht : t < n) (hp : p t = .ta 13 r) : Inv n q sm (s.setR t 3 (s.reg t 0)) (upd p t (.ta 14 r)) ch G := I.tHR ht hp (by omega) (by omega) (by omega) (by omega) 3 _ (by omega) (fun L => L) rfl
theorem Inv.ta14 (I : Inv n q sm s p ch G) (ht : t < n) (hp : p t = .ta 14 r) : Inv n q sm s (upd p t (.ta 22 r)) ch G := by
  have L := I.loc t ht
  rw [hp] at L
  exact I.tH ht hp (by omega) (by omega) (by omega) (by omega) (fun L => ⟨L.1, .inr ⟨L.2.2, L.2.1⟩⟩) (if_neg L.2.2)
theorem Inv.ta15 (I : Inv n q sm s p ch G) (ht : t < n) (hp : p t = .ta 15 r) : Inv n q sm s (upd p t (.ta 16 r)) ch G := I.tH ht hp (by omega) (by omega) (by omega) (by omega) (fun L => L) rfl
theorem Inv.ta16 (I : Inv n q sm s p ch G) (ht : t < n) (hp : p t = .ta 16 r) (v : Int) : Inv n q sm (s.setR t 1 v) (upd p t (.ta 17 r)) ch G := I.tHR ht hp (by omega) (by omega) (by omega) (by omega) 1 _ (by omega) (fun L => L) rfl
theorem Inv.ta17j (I : Inv n q sm s p ch G) (ht : t < n) (hp : p t = .ta 17 r) : Inv n q sm s (upd p t (.ta 19 r)) ch G := I.tH ht hp (by omega) (by omega) (by omega) (by omega) (fun L => L) rfl
theorem Inv.ta17 (I : Inv n q sm s p ch G) (ht : t < n) (hp : p t = .ta 17 r) : Inv n q sm s (upd p t (.ta 18 r)) ch G := I.tH ht hp (by omega) (by omega) (by omega) (by omega) (fun L => L) rfl
theorem Inv.ta18 (I : Inv n q sm s p ch G) (ht : t < n) (hp : p t = .ta 18 r) : Inv n q sm s (upd p t (.ta 7 r)) ch G := I.tH ht hp (by omega) (by omega) (by omega) (by omega) (fun L => L) rfl
theorem Inv.ta19 (I : Inv n q sm s p ch G) (ht : t < n) (hp : p t = .ta 19 r) : Inv n q sm s (upd p t (.ta 20 r)) ch G := I.tH ht hp (by omega) (by omega) (by omega) (by omega) (fun L => L) rfl
theorem Inv.ta20 (I : Inv n q sm s p ch G) (ht : t < n) (hp : p t = .ta 20 r) : Inv n q sm (s.setR t 3 0) (upd p t (.ta 21 r)) ch G := I.tHR ht hp (by omega) (by omega) (by omega) (by omega) 3 _ (by omega) (fun L => ⟨L.1, L.2, rfl⟩) rfl
theorem Inv.ta21 (I : Inv n q sm s p ch G) (ht : t < n) (hp : p t = .ta 21 r) : Inv n q sm (s.setR t 4 0) (upd p t (.ta 22 r)) ch G := by
  have L := I.loc t ht
  rw [hp] at L
  exact I.tHR ht hp (by omega) (by omega) (by omega) (by omega) 4 _ (by omega) (fun L => ⟨.inl L.1, .inl ⟨L.2.2, L.2.1⟩⟩) (if_pos L.2.2)
theorem Inv.ta22 (I : Inv n q sm s p ch G) (ht : t < n) (hp : p t = .ta 22 r) : Inv n q sm s (upd p t (.ta 23 r)) ch G := I.tH ht hp (by omega) (by omega) (by omega) (by omega) (fun L => L) rfl
theorem Inv.ta23 (I : Inv n q sm s p ch G) (ht : t < n) (hp : p t = .ta 23 r) : Inv n q sm (s.setR t 0 0) (upd p t (.ta 24 r)) ch G := I.tHR ht hp (by omega) (by omega) (by omega) (by omega) 0 _ (by omega) (fun L => ⟨L.1, rfl, L.2⟩) rfl
theorem Inv.ta24 (I : Inv n q sm s p ch G) (ht : t < n) (hp : p t = .ta 24 r) : Inv n q sm (s.setB t (s.buf t ++ [⟨q, 2, s.reg t 0⟩])) (upd p t (.ta 25 r)) ch G := by
  have L := I.loc t ht
  rw [hp] at L
  obtain ⟨L1, L2, L3⟩ := L
  rw [L2]
  refine I.goP ht hp _ _ rfl (iffT ?_ (hasH _ _ _ (by omega) (by omega))) (fun _ h => absurd (show (2 : Nat) = 0 from h.2) (by decide)) (fun a b => iffN (pndN _ _ _ (by omega) _ _) (pndN _ _ _ (by omega) _ _)) rfl ⟨?_, L3⟩
  · show _ ++ _ ≠ []
    simp
  · rcases L1 with g | ⟨h, g⟩
    · rw [g]; exact .inr (.inl rfl)
    · rw [g]; exact .inr (.inr ⟨h, rfl⟩)
theorem Inv.ta25 (I : Inv n q sm s p ch G) (ht : t < n) (hp : p t = .ta 25 r) (hb : s.buf t = []) : Inv n q sm s (upd p t (.ta 26 r)) ch G := by
  have L := I.loc t ht
  rw [hp] at L
  exact I.go0 ht hp _ rfl (iffN (hasN _ _ _ (by omega) (by omega) (by omega)) (fun h => h hb)) (fun a b => iffN (pndN _ _ _ (by omega) _ _) (pndN _ _ _ (by omega) _ _)) rfl ⟨hb, L.2⟩
theorem Inv.ta26j (I : Inv n q sm s p ch G) (ht : t < n) (hp : p t = .ta 26 r) (h : s.reg t 3 = 0) : Inv n q sm s (upd p t (.ta 29 r)) ch G := by
  have L := I.loc t ht
  rw [hp] at L
  exact I.go0 ht hp _ (if_pos h).symm (iffN (hasN _ _ _ (by omega) (by omega) (by omega)) (hasN _ _ _ (by omega) (by omega) (by omega))) (fun a b => iffN (pndN _ _ _ (by omega) _ _) (pndN _ _ _ (by omega) _ _)) rfl ⟨L.1, L.2.elim (fun g => g.2) fun g => absurd h g.1⟩
theorem Inv.ta26 (I : Inv n q sm s p ch G) (ht : t < n) (hp : p t = .ta 26 r) (h : s.reg t 3 ≠ 0) : Inv n q sm s (upd p t (.ta 27 r)) ch G := by
  have L := I.loc t ht
  rw [hp] at L
  exact I.go0 ht hp _ (if_neg h).symm (iffN (hasN _ _ _ (by omega) (by omega) (by omega)) (hasN _ _ _ (by omega) (by omega) (by omega))) (fun a b => iffN (pndN _ _ _ (by omega) _ _) (pndN _ _ _ (by omega) _ _)) rfl ⟨L.1, h, L.2.elim (fun g => absurd g.1 h) fun g => g.2⟩
theorem Inv.ta27 (I : Inv n q sm s p ch G) (ht : t < n) (hp : p t = .ta 27 r) : Ev n G { G with pend := upd G.pend t [], marks := G.marks ++ [((t : Int), s.reg t 4)] } ∧ Inv n q sm s (upd p t (.ta 28 r)) ch { G with pend := upd G.pend t [], marks := G.marks ++ [((t : Int), s.reg t 4)] } := by
  have L := I.loc t ht
  rw [hp] at L
  refine ⟨.mark G t _ ht L.2.2, I.go ht (fun _ _ => rfl) (fun _ _ => rfl) rfl rfl rfl (by rw [hp]; rfl) (by rw [hp]; exact iffN (hasN _ _ _ (by omega) (by omega) (by omega)) (hasN _ _ _ (by omega) (by omega) (by omega))) (fun _ => rfl) (fun a b => by rw [hp]; exact iffN (pndN _ _ _ (by omega) _ _) (pndN _ _ _ (by omega) _ _)) rfl (fun u hu => ⟨rfl, upd_ne _ _ hu⟩) (by show G.rem t = _; rw [I.rem t ht, hp]; rfl) ⟨L.1, L.2.1, upd_same _ _ _⟩⟩
theorem Inv.ta29 (I : Inv n q sm s p ch G) (ht : t < n) (hp : p t = .ta 29 r) (h : Start r P') : Inv n q sm s (upd p t P') ch G := by
  have L := I.loc t ht
  rw [hp] at L
  exact I.go0 ht hp _ (h.own _) (iffN (h.has _ _) (hasN _ _ _ (by omega) (by omega) (by omega))) (fun a b => by rw [h.pnd, L.1]; exact iffN (by simp) (pndN _ _ _ (by omega) _ _)) h.1 (h.loc (.inl L.1) L.2)
end ta
end Qu
end
/- The queue on the plain machine: the lock taken, a node put, a node taken. -/
section
namespace Qu
open Qs Qg
variable {n t u : Nat} {q : Int} {sm : Prop} {s s' : A} {p : Nat → Pos} {ch : List Int} {G G' : Gh} {rg : Nat → Int} {e : En} {r : List Int} {P P' : Pos} {v : Int}
theorem Inv.ta3 (I : Inv n q sm s p ch G) (ht : t < n) (hp : p t = .ta 3 r) (hb : s.buf t = []) (h : s.val q 2 = 0) : Inv n q sm ((s.put ⟨q, 2, s.reg t 1⟩).setR t 0 (s.val q 2)) (upd p t (.ta 4 r)) ch G := by
  have L := I.loc t ht
  rw [hp] at L
  obtain ⟨L1, L2, L3, L4⟩ := L
  rw [L4, h]
  obtain ⟨s', hs'⟩ : ∃ s', s' = (s.put ⟨q, 2, 1⟩).setR t 0 0 := ⟨_, rfl⟩
  have er : s'.reg t = rset (s.reg t) 0 0 := by rw [hs']; exact setR_t (s.put ⟨q, 2, 1⟩) t 0 0
  have eru : ∀ u, u ≠ t → s'.reg u = s.reg u := fun u hu => by rw [hs']; exact setR_u (s.put ⟨q, 2, 1⟩) 0 0 hu
  rw [← hs']
  have ev : ∀ x w, s'.val x w = if x = q ∧ w = 2 then 1 else s.val x w := by rw [hs']; exact fun _ _ => rfl
  have eh : s'.here = s.here := by rw [hs']; rfl
  have eb : s'.buf = s.buf := by rw [hs']; rfl
  have evw : ∀ x w, w ≠ 2 → s'.val x w = s.val x w := fun x w h => by rw [ev, if_neg (fun g => h g.2)]
  have nh : ∀ u, u < n → ¬ Has (s.reg u) (s.buf u) (p u) ∧ ch.head? = some (s.val q 0) := fun u hu => by
    rcases I.free with ⟨h1, h2, h3⟩ | ⟨k, h1, h2, h3, h4, h5⟩
    · exact ⟨h3 u hu, h2⟩
    · omega
  have hP0 : ∀ a b, ¬ Pnd (s.reg t) (s.buf t) (p t) a b := fun a b => by rw [hp, pndW _ _ _ (by omega), hb]; simp
  have pnd : ∀ u a b, Pnd (s'.reg u) (s'.buf u) (upd p t (.ta 4 r) u) a b ↔ Pnd (s.reg u) (s.buf u) (p u) a b := fun u a b => by
    rw [eb]
    by_cases e : u = t
    · subst e; rw [upd_same]; exact iffN (pndN _ _ _ (by omega) _ _) (hP0 a b)
    · rw [upd_ne _ _ e, eru u e]
  have hown : ∀ u, own (s'.reg u) (upd p t (.ta 4 r) u) = own (s.reg u) (p u) := fun u => by
    by_cases e : u = t
    · subst e; rw [upd_same, hp]; rfl
    · rw [upd_ne _ _ e, eru u e]
  refine ⟨by rw [eh]; exact I.hq, I.q0, I.qc, I.nd, I.ne, by rw [eh]; exact I.hc, fun u hu => ?_, fun x hx => ?_, fun u hu x hx => ?_, fun u v x hu hv h1 h2 => ?_, fun u hu => ?_, fun u hu => ?_, by rw [evw _ _ (by omega)]; exact I.tail, fun a ha => by rw [evw _ _ (by omega)]; exact I.last a ha, ?_, fun u a b hu h => ?_, fun u v a b c hu hv h1 h2 => ?_, fun a b h => ?_, ?_⟩
  · by_cases e : u = t
    · subst e; rw [er]; exact I.r5 u hu
    · rw [eru u e]; exact I.r5 u hu
  · rw [eh] at hx
    rcases I.here x hx with h | h | ⟨u, hu, h⟩
    · exact .inl h
    · exact .inr (.inl h)
    · exact .inr (.inr ⟨u, hu, by rw [hown]; exact h⟩)
  · rw [hown] at hx; rw [eh]; exact I.ho u hu x hx
  · rw [hown] at h1 h2; exact I.oi u v x hu hv h1 h2
  · by_cases e : u = t
    · subst e; rw [upd_same, eb]; exact ⟨hb, L2⟩
    · rw [upd_ne _ _ e, eru u e, eb]
      exact (I.loc u hu).vl (fun x w ho => by rw [ev, if_neg (fun g => (I.ho u hu x ho).2.1 g.1)]) (fun x y _ hv => by rw [evw _ _ (by omega)]; exact hv) (fun x _ => evw _ _ (by omega))
  · by_cases e : u = t
    · subst e; rw [upd_same, I.rem u hu, hp]; rfl
    · rw [upd_ne _ _ e]; exact I.rem u hu
  · rw [I.vals]
    exact List.map_congr_left fun x _ => (evw x 0 (by omega)).symm
  · rw [evw _ _ (by omega)]; exact I.pn u a b hu ((pnd u a b).1 h)
  · exact I.pi u v a b c hu hv ((pnd u a b).1 h1) ((pnd v a c).1 h2)
  · rw [evw _ _ (by omega)]
    rcases I.lk a b h with g | ⟨u, hu, g⟩
    · exact .inl g
    · exact .inr ⟨u, hu, (pnd u a b).2 g⟩
  · refine .inr ⟨t, ht, ?_, by rw [ev, if_pos ⟨rfl, rfl⟩], ?_, fun u hu e h => ?_⟩
    · rw [upd_same, er]; exact (rfl : rset (s.reg t) 0 0 0 = 0)
    · unfold A.vw
      rw [eb, hb, evw _ _ (by omega)]
      exact (nh t ht).2
    · rw [upd_ne _ _ e, eru u e, eb] at h
      exact (nh u hu).1 h
/-- A node is put. -/
theorem Inv.pu5 (I : Inv n q sm s p ch G) (ht : t < n) (hp : p t = .pu 5 v r) (hb : s.buf t = []) :
    Ev n G { G with rem := upd G.rem t r, chv := G.chv ++ [v] } ∧ Inv n q sm ((s.put ⟨q, 1, s.reg t 0⟩).setR t 0 (s.val q 1)) (upd p t (.pu 6 v r)) (ch ++ [s.reg t 3]) { G with rem := upd G.rem t r, chv := G.chv ++ [v] } := by
  have L := I.loc t ht
  rw [hp] at L
  obtain ⟨L1, L2, L3, L4, L5⟩ := L
  have hval : s.val (s.reg t 3) 0 = v := by
    rcases L5 with ⟨_, g⟩ | g | ⟨a, b, g⟩
    · exact g
    · rw [hb] at g; cases g
    · rw [hb] at g; cases g
  have ho : own (s.reg t) (p t) = some (s.reg t 3) := by rw [hp]; rfl
  obtain ⟨o1, o2, o3⟩ := I.ho t ht _ ho
  obtain ⟨x, hx⟩ : ∃ x, x = s.reg t 3 := ⟨_, rfl⟩
  rw [L4]
  rw [← hx] at L2 L3 hval o1 o2 o3 ho ⊢
  obtain ⟨c, hc⟩ : ∃ c, c = s.val q 1 := ⟨_, rfl⟩
  rw [← hc]
  have hlast : ch.getLast? = some c := by rw [hc]; exact I.tail
  have hcm := List.mem_of_getLast? hlast
  have hcq : c ≠ q := fun h => I.qc (h ▸ hcm)
  obtain ⟨s', hs'⟩ : ∃ s', s' = (s.put ⟨q, 1, x⟩).setR t 0 c := ⟨_, rfl⟩
  have er : s'.reg t = rset (s.reg t) 0 c := by rw [hs']; exact setR_t (s.put ⟨q, 1, x⟩) t 0 c
  have eru : ∀ u, u ≠ t → s'.reg u = s.reg u := fun u hu => by rw [hs']; exact setR_u (s.put ⟨q, 1, x⟩) 0 c hu
  rw [← hs']
  have ev : ∀ y w, s'.val y w = if y = q ∧ w = 1 then x else s.val y w := by rw [hs']; exact fun _ _ => rfl
  have eh : s'.here = s.here := by rw [hs']; rfl
  have eb : s'.buf = s.buf := by rw [hs']; rfl
  have evw : ∀ y w, w ≠ 1 → s'.val y w = s.val y w := fun y w h => by rw [ev, if_neg (fun g => h g.2)]
  have evn : ∀ y w, y ≠ q → s'.val y w = s.val y w := fun y w h => by rw [ev, if_neg (fun g => h g.1)]
  have evc : ∀ y w, y ∈ ch → s'.val y w = s.val y w := fun y w h => evn y w fun g => I.qc (g ▸ h)
  have hP0 : ∀ a b, ¬ Pnd (s.reg t) (s.buf t) (p t) a b := fun a b => by rw [hp]; show ¬ _ ∈ _; rw [hb]; simp
  have pndt : ∀ a b, Pnd (s'.reg t) (s'.buf t) (upd p t (.pu 6 v r) t) a b ↔ a = c ∧ b = x := fun a b => by
    rw [upd_same, er]
    show (a = c ∧ b = s.reg t 3) ↔ _
    rw [hx]
  have pndu : ∀ u a b, u ≠ t → (Pnd (s'.reg u) (s'.buf u) (upd p t (.pu 6 v r) u) a b ↔ Pnd (s.reg u) (s.buf u) (p u) a b) := fun u a b e => by
    rw [eb, upd_ne _ _ e, eru u e]
  have hownt : own (s'.reg t) (upd p t (.pu 6 v r) t) = none := by rw [upd_same]; rfl
  have hown : ∀ u, u ≠ t → own (s'.reg u) (upd p t (.pu 6 v r) u) = own (s.reg u) (p u) := fun u e => by rw [upd_ne _ _ e, eru u e]
  have hasE : ∀ u, Has (s'.reg u) (s'.buf u) (upd p t (.pu 6 v r) u) ↔ Has (s.reg u) (s.buf u) (p u) := fun u => by
    rw [eb]
    by_cases e : u = t
    · subst e; rw [upd_same, hp]; exact Iff.rfl
    · rw [upd_ne _ _ e, eru u e]
  refine ⟨.put G t v r ht (by rw [I.rem t ht, hp]; rfl), ?_⟩
  refine ⟨by rw [eh]; exact I.hq, I.q0, ?_, ?_, by simp, fun y hy => ?_, fun u hu => ?_, fun y hy => ?_, fun u hu y hy => ?_, fun u w y hu hw h1 h2 => ?_, fun u hu => ?_, fun u hu => ?_, ?_, fun a ha => ?_, ?_, fun u a b hu h => ?_, fun u w a b d hu hw h1 h2 => ?_, fun a b h => ?_, ?_⟩
  · intro h
    rcases List.mem_append.1 h with h | h
    · exact I.qc h
    · rw [List.mem_singleton] at h; exact o2 h.symm
  · rw [List.nodup_append]
    exact ⟨I.nd, by simp, fun a ha b hb => by rw [List.mem_singleton] at hb; rw [hb]; exact fun h => o3 (h ▸ ha)⟩
  · rw [eh]
    rcases List.mem_append.1 hy with h | h
    · exact I.hc y h
    · rw [List.mem_singleton] at h; rw [h]; exact ⟨L2, o1⟩
  · by_cases e : u = t
    · subst e; rw [er]; exact I.r5 u hu
    · rw [eru u e]; exact I.r5 u hu
  · rw [eh] at hy
    rcases I.here y hy with h | h | ⟨u, hu, h⟩
    · exact .inl h
    · exact .inr (.inl (List.mem_append.2 (.inl h)))
    · by_cases e : u = t
      · subst e
        rw [ho] at h
        cases h
        exact .inr (.inl (List.mem_append.2 (.inr (by simp))))
      · exact .inr (.inr ⟨u, hu, by rw [hown u e]; exact h⟩)
  · by_cases e : u = t
    · subst e; rw [hownt] at hy; cases hy
    · rw [hown u e] at hy
      obtain ⟨h1, h2, h3⟩ := I.ho u hu y hy
      rw [eh]
      refine ⟨h1, h2, fun h => ?_⟩
      rcases List.mem_append.1 h with h | h
      · exact h3 h
      · rw [List.mem_singleton] at h
        exact e (I.oi u t y hu ht hy (by rw [h]; exact ho))
  · have eu : u ≠ t := fun e => by subst e; rw [hownt] at h1; cases h1
    have ew : w ≠ t := fun e => by subst e; rw [hownt] at h2; cases h2
    rw [hown u eu] at h1
    rw [hown w ew] at h2
    exact I.oi u w y hu hw h1 h2
  · rw [eb]
    by_cases e : u = t
    · subst e; rw [upd_same]; exact ⟨hb, L1⟩
    · rw [upd_ne _ _ e, eru u e]
      exact ((I.loc u hu).vl (fun y w hy => evn y w (I.ho u hu y hy).2.1) (fun y z hyz hv => by rw [evc y 1 hyz.memL]; exact hv) (fun y hy => evc y 0 hy)).app x
  · by_cases e : u = t
    · subst e; rw [upd_same]; exact upd_same _ _ _
    · rw [upd_ne _ _ e]; show upd G.rem t r u = _; rw [upd_ne _ _ e]; exact I.rem u hu
  · rw [ev, if_pos ⟨rfl, rfl⟩]; simp
  · have : a = x := by simpa using ha.symm
    rw [this, evn x 1 o2]; exact L3
  · show G.chv ++ [v] = _
    rw [List.tail_append_of_ne_nil I.ne, List.map_append, I.vals]
    congr 1
    · exact List.map_congr_left fun y _ => (evw y 0 (by omega)).symm
    · rw [List.map_singleton, evw x 0 (by omega), hval]
  · by_cases e : u = t
    · subst e
      obtain ⟨rfl, rfl⟩ := (pndt a b).1 h
      exact ⟨(Nx.snoc hlast).2 (.inr ⟨rfl, rfl⟩), by rw [evn _ _ hcq]; exact I.last _ hlast⟩
    · obtain ⟨g1, g2⟩ := I.pn u a b hu ((pndu u a b e).1 h)
      exact ⟨(Nx.snoc hlast).2 (.inl g1), by rw [evc _ _ g1.memL]; exact g2⟩
  · by_cases eu : u = t
    · by_cases ew : w = t
      · exact eu.trans ew.symm
      · subst eu
        obtain ⟨rfl, _⟩ := (pndt a b).1 h1
        exact ((I.pn w _ d hw ((pndu w _ d ew).1 h2)).1.noLast I.nd hlast).elim
    · by_cases ew : w = t
      · subst ew
        obtain ⟨rfl, _⟩ := (pndt a d).1 h2
        exact ((I.pn u _ b hu ((pndu u _ b eu).1 h1)).1.noLast I.nd hlast).elim
      · exact I.pi u w a b d hu hw ((pndu u a b eu).1 h1) ((pndu w a d ew).1 h2)
  · rcases (Nx.snoc hlast).1 h with g | ⟨rfl, rfl⟩
    · rw [evc _ _ g.memL]
      rcases I.lk a b g with g | ⟨u, hu, g⟩
      · exact .inl g
      · have e : u ≠ t := fun e => by subst e; exact hP0 _ _ g
        exact .inr ⟨u, hu, (pndu u a b e).2 g⟩
    · exact .inr ⟨t, ht, (pndt _ _).2 ⟨rfl, rfl⟩⟩
  · have hh : (ch ++ [x]).head? = ch.head? := by
      cases e : ch with
      | nil => exact absurd e I.ne
      | cons => rfl
    rw [evw q 2 (by omega), evw q 0 (by omega), hh]
    rcases I.free with ⟨h1, h2, h3⟩ | ⟨k, h1, h2, h3, h4, h5⟩
    · exact .inl ⟨h1, h2, fun u hu h => h3 u hu ((hasE u).1 h)⟩
    · refine .inr ⟨k, h1, (hasE k).2 h2, h3, ?_, fun u hu hk h => h5 u hu hk ((hasE u).1 h)⟩
      have : s'.vw k q 0 = s.vw k q 0 := by unfold A.vw; rw [eb, evw q 0 (by omega)]
      rw [this]; exact h4
/-- A node is taken. -/
theorem Inv.ta11 (I : Inv n q sm s p ch G) (ht : t < n) (hp : p t = .ta 11 r) :
    ∃ ch' G', Ev n G G' ∧ G'.marks = G.marks ∧ G'.lost = G.lost ∧ Inv n q sm (s.setB t (s.buf t ++ [⟨q, 0, s.reg t 2⟩])) (upd p t (.ta 12 r)) ch' G' := by
  have L := I.loc t ht
  rw [hp] at L
  obtain ⟨L1, L2, L3, L4, L5⟩ := L
  obtain ⟨f1, f2, f3⟩ := I.hold ht hp (by omega) (by omega)
  obtain ⟨h0, hh0⟩ : ∃ h0, h0 = s.reg t 0 := ⟨_, rfl⟩
  obtain ⟨h1, hh1⟩ : ∃ h1, h1 = s.reg t 2 := ⟨_, rfl⟩
  rw [← hh0] at L3 L5
  rw [← hh1] at L4 L5
  obtain ⟨l, rfl⟩ : ∃ l, ch = h0 :: h1 :: l := by
    match ch, L3, L4 with
    | a :: b :: l, L3, L4 => exact ⟨l, by cases L3; cases L4; rfl⟩
  have hnd := List.nodup_cons.1 I.nd
  have hn0 := I.hc h0 (by simp)
  have hn1 := I.hc h1 (by simp)
  have hqh0 : h0 ≠ q := fun h => I.qc (by rw [← h]; simp)
  have hv0 : G.chv = s.val h1 0 :: l.map fun a => s.val a 0 := I.vals
  obtain ⟨s', hs'⟩ : ∃ s', s' = s.setB t (s.buf t ++ [⟨q, 0, s.reg t 2⟩]) := ⟨_, rfl⟩
  rw [← hs']
  have ebt : s'.buf t = [⟨q, 0, h1⟩] := by rw [hs', L1, hh1]; exact if_pos rfl
  have ebu : ∀ u, u ≠ t → s'.buf u = s.buf u := fun u hu => by rw [hs']; exact if_neg hu
  have er : s'.reg = s.reg := by rw [hs']; rfl
  have ev : s'.val = s.val := by rw [hs']; rfl
  have eh : s'.here = s.here := by rw [hs']; rfl
  have pndt : ∀ a b, ¬ Pnd (s'.reg t) (s'.buf t) (upd p t (.ta 12 r) t) a b := fun a b => by rw [upd_same]; exact pndN _ _ _ (by omega) _ _
  have pndu : ∀ u a b, u ≠ t → (Pnd (s'.reg u) (s'.buf u) (upd p t (.ta 12 r) u) a b ↔ Pnd (s.reg u) (s.buf u) (p u) a b) := fun u a b e => by
    rw [ebu u e, upd_ne _ _ e, er]
  have pnd0 : ∀ a b, ¬ Pnd (s.reg t) (s.buf t) (p t) a b := fun a b => by rw [hp]; exact pndN _ _ _ (by omega) _ _
  have hownt : own (s'.reg t) (upd p t (.ta 12 r) t) = some h0 := by rw [upd_same, er, hh0]; rfl
  have hownt0 : own (s.reg t) (p t) = none := by rw [hp]; rfl
  have hown : ∀ u, u ≠ t → own (s'.reg u) (upd p t (.ta 12 r) u) = own (s.reg u) (p u) := fun u e => by rw [upd_ne _ _ e, er]
  refine ⟨h1 :: l, { G with chv := l.map fun a => s.val a 0, pend := upd G.pend t [s.val h1 0] }, .take G t _ _ ht hv0 L2, rfl, rfl, ?_⟩
  refine ⟨by rw [eh]; exact I.hq, I.q0, fun h => I.qc (List.mem_cons_of_mem _ h), hnd.2, by simp, fun y hy => by rw [eh]; exact I.hc y (List.mem_cons_of_mem _ hy), by rw [er]; exact I.r5, fun y hy => ?_, fun u hu y hy => ?_, fun u w y hu hw g1 g2 => ?_, fun u hu => ?_, fun u hu => ?_, ?_, fun a ha => ?_, by rw [ev]; rfl, fun u a b hu h => ?_, fun u w a b d hu hw g1 g2 => ?_, fun a b h => ?_, ?_⟩
  · rw [eh] at hy
    rcases I.here y hy with h | h | ⟨u, hu, h⟩
    · exact .inl h
    · rcases List.mem_cons.1 h with h | h
      · exact .inr (.inr ⟨t, ht, by rw [hownt, h]⟩)
      · exact .inr (.inl h)
    · have e : u ≠ t := fun e => by subst e; rw [hownt0] at h; cases h
      exact .inr (.inr ⟨u, hu, by rw [hown u e]; exact h⟩)
  · by_cases e : u = t
    · subst e
      rw [hownt] at hy
      cases hy
      rw [eh]
      exact ⟨hn0.2, hqh0, hnd.1⟩
    · rw [hown u e] at hy
      obtain ⟨k1, k2, k3⟩ := I.ho u hu y hy
      rw [eh]
      exact ⟨k1, k2, fun h => k3 (List.mem_cons_of_mem _ h)⟩
  · by_cases eu : u = t
    · by_cases ew : w = t
      · exact eu.trans ew.symm
      · subst eu
        rw [hownt] at g1
        cases g1
        rw [hown w ew] at g2
        exact absurd (by simp) (I.ho w hw _ g2).2.2
    · by_cases ew : w = t
      · subst ew
        rw [hownt] at g2
        cases g2
        rw [hown u eu] at g1
        exact absurd (by simp) (I.ho u hu _ g1).2.2
      · rw [hown u eu] at g1
        rw [hown w ew] at g2
        exact I.oi u w y hu hw g1 g2
  · rw [er, ev]
    by_cases e : u = t
    · subst e
      rw [upd_same, ebt]
      refine ⟨.inr (by rw [← hh1]), by rw [← hh1]; rfl, ?_, by rw [← hh0]; exact hn0.1⟩
      show upd G.pend u [s.val h1 0] u = _
      rw [upd_same, ← hh1]
    · rw [upd_ne _ _ e, ebu u e]
      have : upd G.pend t [s.val h1 0] u = G.pend u := upd_ne _ _ e
      show Loc q sm (s.reg u) (s.buf u) s.val (h1 :: l) (upd G.pend t [s.val h1 0] u) (p u)
      rw [this]
      exact (I.loc u hu).nch (f3 u hu e) _
  · by_cases e : u = t
    · subst e; rw [upd_same]; show G.rem u = _; rw [I.rem u hu, hp]; rfl
    · rw [upd_ne _ _ e]; exact I.rem u hu
  · rw [ev, ← I.tail]; simp
  · rw [ev]; exact I.last a (by rw [← ha]; simp)
  · have e : u ≠ t := fun e => by subst e; exact pndt _ _ h
    obtain ⟨g1, g2⟩ := I.pn u a b hu ((pndu u a b e).1 h)
    rw [ev]
    refine ⟨?_, g2⟩
    rcases Nx.cons.1 g1 with g | ⟨g, _⟩
    · exact g
    · rw [g, L5] at g2; exact absurd g2 hn1.1
  · have eu : u ≠ t := fun e => by subst e; exact pndt _ _ g1
    have ew : w ≠ t := fun e => by subst e; exact pndt _ _ g2
    exact I.pi u w a b d hu hw ((pndu u a b eu).1 g1) ((pndu w a d ew).1 g2)
  · rw [ev]
    rcases I.lk a b (Nx.cons.2 (.inl h)) with g | ⟨u, hu, g⟩
    · exact .inl g
    · have e : u ≠ t := fun e => by subst e; exact pnd0 _ _ g
      exact .inr ⟨u, hu, (pndu u a b e).2 g⟩
  · refine .inr ⟨t, ht, ?_, by rw [ev]; exact f1, ?_, fun u hu e h => ?_⟩
    · rw [upd_same]; exact hasH _ _ _ (by omega) (by omega)
    · unfold A.vw
      rw [ebt]
      show some h1 = some (if q = q ∧ 0 = 0 then h1 else _)
      rw [if_pos ⟨rfl, rfl⟩]
    · rw [upd_ne _ _ e, ebu u e, er] at h
      exact f3 u hu e h
end Qu
end
/- The queue on the plain machine: lines of code and their places. -/
section
namespace Qu
open Qs Qg
/-- Names of labels: numbered, without a dot. -/
structure Lab (lab : Nat → List UInt8) : Prop where
  inj : ∀ i j, lab i = lab j → i = j
  dot : ∀ j, ¬ 46 ∈ lab j
theorem Lab.ne {lab : Nat → List UInt8} (h : Lab lab) (i j : Nat) (c : UInt8) : lab i ++ [46, c] ≠ lab j := fun g => h.dot j (by rw [← g]; simp)
theorem Lab.app {lab : Nat → List UInt8} (h : Lab lab) {i j : Nat} {c d : UInt8} (g : lab i ++ [46, c] = lab j ++ [46, d]) : i = j := h.inj _ _ (List.append_inj_left' g rfl)
structure LineR (code : List Instr) (a : Nat) (ann : Nat → Pos) (i : Nat) (x : Instr) : Prop where
  ins : x.op ≠ 20 → insOf (ann i) = some (x.op, x.A, x.B, x.C)
  ip : insP x = true
  jmp : 14 ≤ x.op → x.op ≤ 16 → ∃ j, labelAt x.to code 0 = some (a + j) ∧ ann j = (ann i).go (tgtOf (ann i))
  nx : x.op ≠ 20 → Nxt (ann i) (ann (i + 1))
  fin : x.op = 20 → ann i = .fin
theorem put_label (e : List UInt8) (v : Int) : labelAt e (putBlk e v) 0 = some 7 := by simp [putBlk, labelAt]
section
variable (e p : List UInt8)
theorem take_a : labelAt (p ++ [46, 97]) (takeBlk e p) 0 = some 0 := by simp [takeBlk, labelAt]
theorem take_b : labelAt (p ++ [46, 98]) (takeBlk e p) 0 = some 6 := by simp [takeBlk, labelAt]
theorem take_c : labelAt (p ++ [46, 99]) (takeBlk e p) 0 = some 7 := by simp [takeBlk, labelAt]
theorem take_d : labelAt (p ++ [46, 100]) (takeBlk e p) 0 = some 15 := by simp [takeBlk, labelAt]
theorem take_e : labelAt (p ++ [46, 101]) (takeBlk e p) 0 = some 19 := by simp [takeBlk, labelAt]
theorem take_f : labelAt (p ++ [46, 102]) (takeBlk e p) 0 = some 22 := by simp [takeBlk, labelAt]
theorem take_end (h : ∀ c, p ++ [46, c] ≠ e) : labelAt e (takeBlk e p) 0 = some 29 := by simp [takeBlk, labelAt, h]
end
theorem start_ann (l : List Op) : Start (putsOf l) ((annOf l).getD 0 .fin) := by
  match l with
  | [] => exact ⟨rfl, .inl rfl⟩
  | .put v :: l => exact ⟨rfl, .inr (.inl ⟨v, putsOf l, rfl⟩)⟩
  | .take :: l => exact ⟨rfl, .inr (.inr ⟨putsOf l, rfl⟩)⟩
theorem ann_put (v : Int) (l : List Op) (i : Nat) : (annOf (.put v :: l)).getD i .fin = if i < 8 then .pu i v (putsOf l) else (annOf l).getD (i - 8) .fin := by
  show ((List.range 8).map (fun o => Pos.pu o v (putsOf l)) ++ annOf l).getD i .fin = _
  by_cases h : i < 8
  · rw [if_pos h, List.getD, List.getElem?_append_left (by simpa using h)]
    simp [h]
  · rw [if_neg h, List.getD, List.getElem?_append_right (by simp; omega)]
    simp [List.getD]
theorem ann_take (l : List Op) (i : Nat) : (annOf (.take :: l)).getD i .fin = if i < 30 then .ta i (putsOf l) else (annOf l).getD (i - 30) .fin := by
  show ((List.range 30).map (fun o => Pos.ta o (putsOf l)) ++ annOf l).getD i .fin = _
  by_cases h : i < 30
  · rw [if_pos h, List.getD, List.getElem?_append_left (by simpa using h)]
    simp [h]
  · rw [if_neg h, List.getD, List.getElem?_append_right (by simp; omega)]
    simp [List.getD]
variable {lab : Nat → List UInt8}
/-- Labels that stand ahead are none of those that come. -/
def Old (lab : Nat → List UInt8) (k : Nat) (A : List Instr) : Prop := ∀ x ∈ A, x.op = 17 → ∀ j, k < j → x.to ≠ lab j ∧ ∀ c, x.to ≠ lab j ++ [46, c]
theorem old_put (hl : Lab lab) {k : Nat} {A : List Instr} (h : Old lab k A) (v : Int) : Old lab (k + 2) (A ++ putBlk (lab (k + 1)) v) := by
  intro x hx h17 j hj
  rcases List.mem_append.1 hx with hx | hx
  · exact h x hx h17 j (by omega)
  · simp only [putBlk, List.mem_cons, List.not_mem_nil, or_false] at hx
    rcases hx with rfl | rfl | rfl | rfl | rfl | rfl | rfl | rfl
    all_goals first
      | (exfalso; simp at h17; done)
      | exact ⟨fun g => by have := hl.inj _ _ g; omega, fun c g => hl.ne _ _ c g.symm⟩
theorem old_take (hl : Lab lab) {k : Nat} {A : List Instr} (h : Old lab k A) : Old lab (k + 2) (A ++ takeBlk (lab (k + 1)) (lab (k + 2))) := by
  intro x hx h17 j hj
  rcases List.mem_append.1 hx with hx | hx
  · exact h x hx h17 j (by omega)
  · simp only [takeBlk, List.mem_cons, List.not_mem_nil, or_false] at hx
    rcases hx with rfl | rfl | rfl | rfl | rfl | rfl | rfl | rfl | rfl | rfl | rfl | rfl | rfl | rfl | rfl | rfl | rfl | rfl | rfl | rfl | rfl | rfl | rfl | rfl | rfl | rfl | rfl | rfl | rfl | rfl
    all_goals first
      | (exfalso; simp at h17; done)
      | exact ⟨fun g => hl.ne _ _ _ g, fun c g => by have := hl.app g; omega⟩
      | exact ⟨fun g => by have := hl.inj _ _ g; omega, fun c g => hl.ne _ _ c g.symm⟩
theorem line (hl : Lab lab) : ∀ (ops : List Op) (k : Nat) (A : List Instr), Old lab k A → ∀ i x, (codeOf lab k ops)[i]? = some x → LineR (A ++ codeOf lab k ops) A.length (fun i => (annOf ops).getD i .fin) i x
  | [], k, A, hA, i, x, hx => by
    match i, hx with
    | 0, hx =>
      cases hx
      exact ⟨fun h => absurd rfl h, rfl, fun h1 h2 => by simp at h2, fun h => absurd rfl h, fun _ => rfl⟩
    | i + 1, hx => simp [codeOf] at hx
  | .put v :: l, k, A, hA, i, x, hx => by
    have ih := line hl l (k + 2) (A ++ putBlk (lab (k + 1)) v) (old_put hl hA v)
    have hc : A ++ codeOf lab k (.put v :: l) = A ++ (putBlk (lab (k + 1)) v ++ codeOf lab (k + 2) l) := rfl
    have hs := start_ann l
    by_cases h8 : i < 8
    · have hb : (putBlk (lab (k + 1)) v)[i]? = some x := by
        have : (putBlk (lab (k + 1)) v ++ codeOf lab (k + 2) l)[i]? = some x := hx
        rw [List.getElem?_append_left (by exact h8)] at this
        exact this
      have hlab : labelAt (lab (k + 1)) (A ++ codeOf lab k (.put v :: l)) 0 = some (A.length + 7) := row_label (fun x hx h17 => (hA x hx h17 (k + 1) (by omega)).1) (put_label _ v)
      have ha : ∀ j, j < 8 → (annOf (.put v :: l)).getD j .fin = .pu j v (putsOf l) := fun j hj => by simp only [ann_put, if_pos hj]
      have ha8 : (annOf (.put v :: l)).getD 8 .fin = (annOf l).getD 0 .fin := by simp only [ann_put]; rfl
      match i, hb, h8 with
      | 0, hb, _ => cases hb; exact ⟨fun _ => by rw [ha 0 (by omega)]; rfl, rfl, fun h1 h2 => by simp at h1, fun _ => by rw [ha 0 (by omega), ha 1 (by omega)]; exact rfl, fun h => by simp at h⟩
      | 1, hb, _ => cases hb; exact ⟨fun _ => by rw [ha 1 (by omega)]; rfl, rfl, fun h1 h2 => ⟨7, hlab, by rw [ha 7 (by omega), ha 1 (by omega)]; rfl⟩, fun _ => by rw [ha 1 (by omega), ha 2 (by omega)]; exact rfl, fun h => by simp at h⟩
      | 2, hb, _ => cases hb; exact ⟨fun _ => by rw [ha 2 (by omega)]; rfl, rfl, fun h1 h2 => by simp at h1, fun _ => by rw [ha 2 (by omega), ha 3 (by omega)]; exact rfl, fun h => by simp at h⟩
      | 3, hb, _ => cases hb; exact ⟨fun _ => by rw [ha 3 (by omega)]; rfl, rfl, fun h1 h2 => by simp at h1, fun _ => by rw [ha 3 (by omega), ha 4 (by omega)]; exact rfl, fun h => by simp at h⟩
      | 4, hb, _ => cases hb; exact ⟨fun _ => by rw [ha 4 (by omega)]; rfl, rfl, fun h1 h2 => by simp at h1, fun _ => by rw [ha 4 (by omega), ha 5 (by omega)]; exact rfl, fun h => by simp at h⟩
      | 5, hb, _ => cases hb; exact ⟨fun _ => by rw [ha 5 (by omega)]; rfl, rfl, fun h1 h2 => by simp at h1, fun _ => by rw [ha 5 (by omega), ha 6 (by omega)]; exact rfl, fun h => by simp at h⟩
      | 6, hb, _ => cases hb; exact ⟨fun _ => by rw [ha 6 (by omega)]; rfl, rfl, fun h1 h2 => by simp at h1, fun _ => by rw [ha 6 (by omega), ha 7 (by omega)]; exact rfl, fun h => by simp at h⟩
      | 7, hb, _ => cases hb; exact ⟨fun _ => by rw [ha 7 (by omega)]; rfl, rfl, fun h1 h2 => by simp at h2, fun _ => by rw [ha 7 (by omega), ha8]; exact hs, fun h => by simp at h⟩
      | _ + 8, hb, h => omega
    · have hx' : (codeOf lab (k + 2) l)[i - 8]? = some x := by
        have : (putBlk (lab (k + 1)) v ++ codeOf lab (k + 2) l)[i]? = some x := hx
        rw [List.getElem?_append_right (by exact Nat.le_of_not_lt h8)] at this
        exact this
      obtain ⟨i1, i2, i3, i4, i5⟩ := ih (i - 8) x hx'
      have ha : ∀ j, 8 ≤ j → (annOf (.put v :: l)).getD j .fin = (annOf l).getD (j - 8) .fin := fun j hj => by simp only [ann_put, if_neg (Nat.not_lt.2 hj)]
      refine ⟨fun h => by rw [ha i (by omega)]; exact i1 h, i2, fun h1 h2 => ?_, fun h => by rw [ha i (by omega), ha (i + 1) (by omega), show i + 1 - 8 = i - 8 + 1 by omega]; exact i4 h, fun h => by rw [ha i (by omega)]; exact i5 h⟩
      obtain ⟨j, j1, j2⟩ := i3 h1 h2
      refine ⟨8 + j, ?_, by rw [ha i (by omega), ha (8 + j) (by omega), Nat.add_sub_cancel_left]; exact j2⟩
      rw [hc, ← List.append_assoc, j1, List.length_append]
      show some (A.length + 8 + j) = _
      congr 1; omega
  | .take :: l, k, A, hA, i, x, hx => by
    have ih := line hl l (k + 2) (A ++ takeBlk (lab (k + 1)) (lab (k + 2))) (old_take hl hA)
    have hc : A ++ codeOf lab k (.take :: l) = A ++ (takeBlk (lab (k + 1)) (lab (k + 2)) ++ codeOf lab (k + 2) l) := rfl
    have hs := start_ann l
    by_cases h8 : i < 30
    · have hb : (takeBlk (lab (k + 1)) (lab (k + 2)))[i]? = some x := by
        have : (takeBlk (lab (k + 1)) (lab (k + 2)) ++ codeOf lab (k + 2) l)[i]? = some x := hx
        rw [List.getElem?_append_left (by exact h8)] at this
        exact this
      have hlab : ∀ c j, labelAt (lab (k + 2) ++ [46, c]) (takeBlk (lab (k + 1)) (lab (k + 2))) 0 = some j → labelAt (lab (k + 2) ++ [46, c]) (A ++ codeOf lab k (.take :: l)) 0 = some (A.length + j) := fun c j h => row_label (fun x hx h17 => (hA x hx h17 (k + 2) (by omega)).2 c) h
      have hend : labelAt (lab (k + 1)) (A ++ codeOf lab k (.take :: l)) 0 = some (A.length + 29) := row_label (fun x hx h17 => (hA x hx h17 (k + 1) (by omega)).1) (take_end _ _ fun c => hl.ne _ _ c)
      have ha : ∀ j, j < 30 → (annOf (.take :: l)).getD j .fin = .ta j (putsOf l) := fun j hj => by simp only [ann_take, if_pos hj]
      have ha8 : (annOf (.take :: l)).getD 30 .fin = (annOf l).getD 0 .fin := by simp only [ann_take]; rfl
      match i, hb, h8 with
      | 0, hb, _ => cases hb; exact ⟨fun _ => by rw [ha 0 (by omega)]; rfl, rfl, fun h1 h2 => by simp at h2, fun _ => by rw [ha 0 (by omega), ha 1 (by omega)]; exact rfl, fun h => by simp at h⟩
      | 1, hb, _ => cases hb; exact ⟨fun _ => by rw [ha 1 (by omega)]; rfl, rfl, fun h1 h2 => by simp at h1, fun _ => by rw [ha 1 (by omega), ha 2 (by omega)]; exact rfl, fun h => by simp at h⟩
      | 2, hb, _ => cases hb; exact ⟨fun _ => by rw [ha 2 (by omega)]; rfl, rfl, fun h1 h2 => by simp at h1, fun _ => by rw [ha 2 (by omega), ha 3 (by omega)]; exact rfl, fun h => by simp at h⟩
      | 3, hb, _ => cases hb; exact ⟨fun _ => by rw [ha 3 (by omega)]; rfl, rfl, fun h1 h2 => by simp at h1, fun _ => by rw [ha 3 (by omega), ha 4 (by omega)]; exact rfl, fun h => by simp at h⟩
      | 4, hb, _ => cases hb; exact ⟨fun _ => by rw [ha 4 (by omega)]; rfl, rfl, fun h1 h2 => ⟨6, hlab 98 _ (take_b _ _), by rw [ha 6 (by omega), ha 4 (by omega)]; rfl⟩, fun _ => by rw [ha 4 (by omega), ha 5 (by omega)]; exact rfl, fun h => by simp at h⟩
      | 5, hb, _ => cases hb; exact ⟨fun _ => by rw [ha 5 (by omega)]; rfl, rfl, fun h1 h2 => ⟨0, hlab 97 _ (take_a _ _), by rw [ha 0 (by omega), ha 5 (by omega)]; rfl⟩, fun _ => by rw [ha 5 (by omega), ha 6 (by omega)]; exact rfl, fun h => by simp at h⟩
      | 6, hb, _ => cases hb; exact ⟨fun _ => by rw [ha 6 (by omega)]; rfl, rfl, fun h1 h2 => by simp at h2, fun _ => by rw [ha 6 (by omega), ha 7 (by omega)]; exact rfl, fun h => by simp at h⟩
      | 7, hb, _ => cases hb; exact ⟨fun _ => by rw [ha 7 (by omega)]; rfl, rfl, fun h1 h2 => by simp at h2, fun _ => by rw [ha 7 (by omega), ha 8 (by omega)]; exact rfl, fun h => by simp at h⟩
      | 8, hb, _ => cases hb; exact ⟨fun _ => by rw [ha 8 (by omega)]; rfl, rfl, fun h1 h2 => by simp at h1, fun _ => by rw [ha 8 (by omega), ha 9 (by omega)]; exact rfl, fun h => by simp at h⟩
      | 9, hb, _ => cases hb; exact ⟨fun _ => by rw [ha 9 (by omega)]; rfl, rfl, fun h1 h2 => by simp at h1, fun _ => by rw [ha 9 (by omega), ha 10 (by omega)]; exact rfl, fun h => by simp at h⟩
      | 10, hb, _ => cases hb; exact ⟨fun _ => by rw [ha 10 (by omega)]; rfl, rfl, fun h1 h2 => ⟨15, hlab 100 _ (take_d _ _), by rw [ha 15 (by omega), ha 10 (by omega)]; rfl⟩, fun _ => by rw [ha 10 (by omega), ha 11 (by omega)]; exact rfl, fun h => by simp at h⟩
      | 11, hb, _ => cases hb; exact ⟨fun _ => by rw [ha 11 (by omega)]; rfl, rfl, fun h1 h2 => by simp at h1, fun _ => by rw [ha 11 (by omega), ha 12 (by omega)]; exact rfl, fun h => by simp at h⟩
      | 12, hb, _ => cases hb; exact ⟨fun _ => by rw [ha 12 (by omega)]; rfl, rfl, fun h1 h2 => by simp at h1, fun _ => by rw [ha 12 (by omega), ha 13 (by omega)]; exact rfl, fun h => by simp at h⟩
      | 13, hb, _ => cases hb; exact ⟨fun _ => by rw [ha 13 (by omega)]; rfl, rfl, fun h1 h2 => by simp at h1, fun _ => by rw [ha 13 (by omega), ha 14 (by omega)]; exact rfl, fun h => by simp at h⟩
      | 14, hb, _ => cases hb; exact ⟨fun _ => by rw [ha 14 (by omega)]; rfl, rfl, fun h1 h2 => ⟨22, hlab 102 _ (take_f _ _), by rw [ha 22 (by omega), ha 14 (by omega)]; rfl⟩, fun _ => by rw [ha 14 (by omega), ha 15 (by omega)]; exact rfl, fun h => by simp at h⟩
      | 15, hb, _ => cases hb; exact ⟨fun _ => by rw [ha 15 (by omega)]; rfl, rfl, fun h1 h2 => by simp at h2, fun _ => by rw [ha 15 (by omega), ha 16 (by omega)]; exact rfl, fun h => by simp at h⟩
      | 16, hb, _ => cases hb; exact ⟨fun _ => by rw [ha 16 (by omega)]; rfl, rfl, fun h1 h2 => by simp at h1, fun _ => by rw [ha 16 (by omega), ha 17 (by omega)]; exact rfl, fun h => by simp at h⟩
      | 17, hb, _ => cases hb; exact ⟨fun _ => by rw [ha 17 (by omega)]; rfl, rfl, fun h1 h2 => ⟨19, hlab 101 _ (take_e _ _), by rw [ha 19 (by omega), ha 17 (by omega)]; rfl⟩, fun _ => by rw [ha 17 (by omega), ha 18 (by omega)]; exact rfl, fun h => by simp at h⟩
      | 18, hb, _ => cases hb; exact ⟨fun _ => by rw [ha 18 (by omega)]; rfl, rfl, fun h1 h2 => ⟨7, hlab 99 _ (take_c _ _), by rw [ha 7 (by omega), ha 18 (by omega)]; rfl⟩, fun _ => by rw [ha 18 (by omega), ha 19 (by omega)]; exact rfl, fun h => by simp at h⟩
      | 19, hb, _ => cases hb; exact ⟨fun _ => by rw [ha 19 (by omega)]; rfl, rfl, fun h1 h2 => by simp at h2, fun _ => by rw [ha 19 (by omega), ha 20 (by omega)]; exact rfl, fun h => by simp at h⟩
      | 20, hb, _ => cases hb; exact ⟨fun _ => by rw [ha 20 (by omega)]; rfl, rfl, fun h1 h2 => by simp at h1, fun _ => by rw [ha 20 (by omega), ha 21 (by omega)]; exact rfl, fun h => by simp at h⟩
      | 21, hb, _ => cases hb; exact ⟨fun _ => by rw [ha 21 (by omega)]; rfl, rfl, fun h1 h2 => by simp at h1, fun _ => by rw [ha 21 (by omega), ha 22 (by omega)]; exact rfl, fun h => by simp at h⟩
      | 22, hb, _ => cases hb; exact ⟨fun _ => by rw [ha 22 (by omega)]; rfl, rfl, fun h1 h2 => by simp at h2, fun _ => by rw [ha 22 (by omega), ha 23 (by omega)]; exact rfl, fun h => by simp at h⟩
      | 23, hb, _ => cases hb; exact ⟨fun _ => by rw [ha 23 (by omega)]; rfl, rfl, fun h1 h2 => by simp at h1, fun _ => by rw [ha 23 (by omega), ha 24 (by omega)]; exact rfl, fun h => by simp at h⟩
      | 24, hb, _ => cases hb; exact ⟨fun _ => by rw [ha 24 (by omega)]; rfl, rfl, fun h1 h2 => by simp at h1, fun _ => by rw [ha 24 (by omega), ha 25 (by omega)]; exact rfl, fun h => by simp at h⟩
      | 25, hb, _ => cases hb; exact ⟨fun _ => by rw [ha 25 (by omega)]; rfl, rfl, fun h1 h2 => by simp at h1, fun _ => by rw [ha 25 (by omega), ha 26 (by omega)]; exact rfl, fun h => by simp at h⟩
      | 26, hb, _ => cases hb; exact ⟨fun _ => by rw [ha 26 (by omega)]; rfl, rfl, fun h1 h2 => ⟨29, hend, by rw [ha 29 (by omega), ha 26 (by omega)]; rfl⟩, fun _ => by rw [ha 26 (by omega), ha 27 (by omega)]; exact rfl, fun h => by simp at h⟩
      | 27, hb, _ => cases hb; exact ⟨fun _ => by rw [ha 27 (by omega)]; rfl, rfl, fun h1 h2 => by simp at h2, fun _ => by rw [ha 27 (by omega), ha 28 (by omega)]; exact rfl, fun h => by simp at h⟩
      | 28, hb, _ => cases hb; exact ⟨fun _ => by rw [ha 28 (by omega)]; rfl, rfl, fun h1 h2 => by simp at h1, fun _ => by rw [ha 28 (by omega), ha 29 (by omega)]; exact rfl, fun h => by simp at h⟩
      | 29, hb, _ => cases hb; exact ⟨fun _ => by rw [ha 29 (by omega)]; rfl, rfl, fun h1 h2 => by simp at h2, fun _ => by rw [ha 29 (by omega), ha8]; exact hs, fun h => by simp at h⟩
      | _ + 30, hb, h => omega
    · have hx' : (codeOf lab (k + 2) l)[i - 30]? = some x := by
        have : (takeBlk (lab (k + 1)) (lab (k + 2)) ++ codeOf lab (k + 2) l)[i]? = some x := hx
        rw [List.getElem?_append_right (by exact Nat.le_of_not_lt h8)] at this
        exact this
      obtain ⟨i1, i2, i3, i4, i5⟩ := ih (i - 30) x hx'
      have ha : ∀ j, 30 ≤ j → (annOf (.take :: l)).getD j .fin = (annOf l).getD (j - 30) .fin := fun j hj => by simp only [ann_take, if_neg (Nat.not_lt.2 hj)]
      refine ⟨fun h => by rw [ha i (by omega)]; exact i1 h, i2, fun h1 h2 => ?_, fun h => by rw [ha i (by omega), ha (i + 1) (by omega), show i + 1 - 30 = i - 30 + 1 by omega]; exact i4 h, fun h => by rw [ha i (by omega)]; exact i5 h⟩
      obtain ⟨j, j1, j2⟩ := i3 h1 h2
      refine ⟨30 + j, ?_, by rw [ha i (by omega), ha (30 + j) (by omega), Nat.add_sub_cancel_left]; exact j2⟩
      rw [hc, ← List.append_assoc, j1, List.length_append]
      show some (A.length + 30 + j) = _
      congr 1; omega
end Qu
end
/- The queue on the plain machine: by any turns there is no fault, and what is done is told by events. -/
section
namespace Qu
open Qs Qg
variable {n t u : Nat} {q : Int} {sm : Prop} {s s' : A} {p : Nat → Pos} {ch : List Int} {G G0 : Gh} {r : List Int} {P P' : Pos} {lab : Nat → List UInt8} {ops : Nat → List Op} {N : Int} {m : M}
/-- Events, one behind the other. -/
inductive Evs (n : Nat) : Gh → Gh → Prop
  | nil (G : Gh) : Evs n G G
  | snoc {G G1 G2 : Gh} : Evs n G G1 → Ev n G1 G2 → Evs n G G2
theorem Evs.num {G' : Gh} (h : Evs n G G') : G'.num n = G.num n := by
  induction h with
  | nil => rfl
  | snoc _ e ih => rw [e.num, ih]
theorem Evs.grow {G' : Gh} (h : Evs n G G') (g : Grow n G) : Grow n G' := by
  induction h with
  | nil => exact g
  | snoc _ e ih => exact e.grow ih
theorem Inv.pc (I : Inv n q sm s p ch G) (t k : Nat) : Inv n q sm (s.setP t k) p ch G := ⟨I.hq, I.q0, I.qc, I.nd, I.ne, I.hc, I.r5, I.here, I.ho, I.oi, I.loc, I.rem, I.tail, I.last, I.vals, I.pn, I.pi, I.lk, I.free⟩
theorem Inv.bufs (I : Inv n q sm s p ch G) (ht : t < n) : ∀ e ∈ s.buf t, s.here e.a = true := by
  intro e he
  have L := I.loc t ht
  have hp : ∀ a b, Pnd (s.reg t) (s.buf t) (p t) a b → s.here a = true := fun a b h => (I.hc a (I.pn t a b ht h).1.memL).2
  have ho := I.ho t ht
  have hq := I.hq
  have lk : Lk (s.buf t) → (∀ a b, ⟨a, 1, b⟩ ∈ s.buf t → s.here a = true) → s.here e.a = true := fun h g => by
    rcases h with h | ⟨a, b, h⟩
    · rw [h] at he; cases he
    · rw [h] at he g
      rw [List.mem_singleton] at he
      subst he
      exact g a b (by simp)
  have nl : s.buf t = [] → s.here e.a = true := fun h => by rw [h] at he; cases he
  have hd : (s.buf t = [] ∨ ∃ h, s.buf t = [⟨q, 0, h⟩]) → s.here e.a = true := fun h => by
    rcases h with h | ⟨k, h⟩
    · exact nl h
    · rw [h, List.mem_singleton] at he; subst he; exact hq
  cases e0 : p t with
  | fin => rw [e0] at L hp; exact lk L.1 hp
  | pu o v l =>
    rw [e0] at L hp ho
    match o, L, hp, ho with
    | 0, L, hp, ho => exact lk L.1 hp
    | 1, L, hp, ho => exact lk L.1 hp
    | 2, L, hp, ho => exact lk L.1 hp
    | 3, L, hp, ho => exact lk L.1 hp
    | 4, L, hp, ho =>
      have h3 := (ho _ rfl).1
      rcases L.2.2.2 with h | h | ⟨a, b, h⟩
      · exact nl h.1
      · rw [h, List.mem_singleton] at he; subst he; exact h3
      · have := hp a b (by show _ ∈ _; rw [h]; simp)
        rw [h] at he
        simp only [List.mem_cons, List.not_mem_nil, or_false] at he
        rcases he with he | he
        · subst he; exact this
        · subst he; exact h3
    | 5, L, hp, ho =>
      have h3 := (ho _ rfl).1
      rcases L.2.2.2.2 with h | h | ⟨a, b, h⟩
      · exact nl h.1
      · rw [h, List.mem_singleton] at he; subst he; exact h3
      · have := hp a b (by show _ ∈ _; rw [h]; simp)
        rw [h] at he
        simp only [List.mem_cons, List.not_mem_nil, or_false] at he
        rcases he with he | he
        · subst he; exact this
        · subst he; exact h3
    | 6, L, hp, ho => exact nl L.1
    | 7, L, hp, ho => exact lk L.1 hp
    | _ + 8, L, hp, ho => exact L.elim
  | ta o l =>
    rw [e0] at L hp
    match o, L, hp with
    | 0, L, hp => exact lk L.1 fun a b h => hp a b ⟨by omega, h⟩
    | 1, L, hp => exact lk L.1 fun a b h => hp a b ⟨by omega, h⟩
    | 2, L, hp => exact lk L.1 fun a b h => hp a b ⟨by omega, h⟩
    | 3, L, hp => exact lk L.1 fun a b h => hp a b ⟨by omega, h⟩
    | 4, L, hp => exact nl L.1
    | 5, L, hp => exact nl L.1
    | 6, L, hp => exact nl L.1
    | 7, L, hp => exact nl L.1
    | 8, L, hp => exact nl L.1
    | 9, L, hp => exact nl L.1
    | 10, L, hp => exact nl L.1
    | 11, L, hp => exact nl L.1
    | 12, L, hp => exact hd (L.1.imp id fun g => ⟨_, g⟩)
    | 13, L, hp => exact hd L.1
    | 14, L, hp => exact hd L.1
    | 15, L, hp => exact nl L.1
    | 16, L, hp => exact nl L.1
    | 17, L, hp => exact nl L.1
    | 18, L, hp => exact nl L.1
    | 19, L, hp => exact nl L.1
    | 20, L, hp => exact nl L.1
    | 21, L, hp => exact nl L.1
    | 22, L, hp => exact hd L.1
    | 23, L, hp => exact hd L.1
    | 24, L, hp => exact hd L.1
    | 25, L, hp =>
      rcases L.1 with h | h | ⟨k, h⟩
      · exact nl h
      · rw [h, List.mem_singleton] at he; subst he; exact hq
      · rw [h] at he
        simp only [List.mem_cons, List.not_mem_nil, or_false] at he
        rcases he with he | he <;> (subst he; exact hq)
    | 26, L, hp => exact nl L.1
    | 27, L, hp => exact nl L.1
    | 28, L, hp => exact nl L.1
    | 29, L, hp => exact nl L.1
    | _ + 30, L, hp => exact L.elim
/-- Does an instruction jump? -/
def Jmp (s : A) (t : Nat) (x : Instr) : Prop := (x.op = 14 ∧ s.reg t x.A.toNat = 0) ∨ (x.op = 15 ∧ s.reg t x.A.toNat = s.reg t x.B.toNat) ∨ x.op = 16
/-- Behind a place, by an instruction. -/
def Goes (s : A) (t : Nat) (x : Instr) (P P' : Pos) : Prop := (Jmp s t x → P' = P.go (tgtOf P)) ∧ (¬ Jmp s t x → Nxt P P')
theorem ins_eq {x : Instr} {a : Nat} {b c d : Int} (h : some (a, b, c, d) = some (x.op, x.A, x.B, x.C)) : ∃ to, x = ⟨a, b, c, d, to⟩ := by
  obtain ⟨o, A, B, C, to⟩ := x
  cases h
  exact ⟨to, rfl⟩
theorem noJ {a : Nat} {b c d : Int} {to : List UInt8} (h : a < 14 ∨ 16 < a) : ¬ Jmp s t ⟨a, b, c, d, to⟩ := fun g => by
  unfold Jmp at g
  simp only at g
  omega
theorem Inv.ins (I : Inv n q sm s p ch G) (ht : t < n) {x : Instr} (hx : insOf (p t) = some (x.op, x.A, x.B, x.C)) (h10 : x.op ≠ 10) (h18 : x.op ≠ 18) (hf : x.op = 8 ∨ x.op = 9 ∨ x.op = 11 ∨ x.op = 12 → s.buf t = []) (hg : Goes s t x (p t) P') (tg : Nat) :
    s.Req t x ∧ ∃ ch' G', Ev n G G' ∧ G'.marks = G.marks ∧ (sm → G'.lost = G.lost) ∧ Inv n q sm (s.ex t x tg) (upd p t P') ch' G' := by
  obtain ⟨gj, gn⟩ := hg
  have r5 := I.r5 t ht
  have same : ∀ {s' : A} {P' : Pos}, Inv n q sm s' (upd p t P') ch G → ∃ ch' G', Ev n G G' ∧ G'.marks = G.marks ∧ (sm → G'.lost = G.lost) ∧ Inv n q sm s' (upd p t P') ch' G' := fun h => ⟨ch, G, .same G, rfl, fun _ => rfl, h⟩
  have Lo := I.loc t ht
  cases e0 : p t with
  | fin => rw [e0] at hx; cases hx
  | pu o v l =>
    rw [e0] at hx gj gn Lo
    match o, hx, gj, gn, e0, Lo with
    | 0, hx, gj, gn, e0, Lo => obtain ⟨to, rfl⟩ := ins_eq hx; exact absurd rfl h10
    | 1, hx, gj, gn, e0, Lo =>
      obtain ⟨to, rfl⟩ := ins_eq hx
      refine ⟨trivial, ?_⟩
      by_cases h : s.reg t 3 = 0
      · obtain rfl := gj (.inl ⟨rfl, h⟩)
        obtain ⟨h1, h2, h3⟩ := I.pu1j ht e0 h
        have he : s.ex t ⟨14, 3, 0, 0, to⟩ tg = s.setP t tg := if_pos h
        exact ⟨ch, _, h2, rfl, fun g => absurd g h1, by rw [he]; exact h3.pc _ _⟩
      · obtain rfl := gn (fun g => by rcases g with ⟨_, g⟩ | ⟨g, _⟩ | g <;> first | exact h g | (simp at g; done))
        have he : s.ex t ⟨14, 3, 0, 0, to⟩ tg = s := if_neg h
        rw [he]; exact same (I.pu1 ht e0 h)
    | 2, hx, gj, gn, e0, Lo =>
      obtain ⟨to, rfl⟩ := ins_eq hx
      obtain rfl := gn (noJ (by omega))
      exact ⟨trivial, same (I.pu2 ht e0)⟩
    | 3, hx, gj, gn, e0, Lo =>
      obtain ⟨to, rfl⟩ := ins_eq hx
      obtain rfl := gn (noJ (by omega))
      exact ⟨(I.ho t ht (s.reg t 3) (by rw [e0]; rfl)).1, same (I.pu3 ht e0)⟩
    | 4, hx, gj, gn, e0, Lo =>
      obtain ⟨to, rfl⟩ := ins_eq hx
      obtain rfl := gn (noJ (by omega))
      exact ⟨trivial, same (I.pu4 ht e0)⟩
    | 5, hx, gj, gn, e0, Lo =>
      obtain ⟨to, rfl⟩ := ins_eq hx
      obtain rfl := gn (noJ (by omega))
      obtain ⟨h1, h2⟩ := I.pu5 ht e0 (hf (.inl rfl))
      have he : s.ex t ⟨8, 0, 5, 1, to⟩ tg = (s.put ⟨s.reg t 5, 1, s.reg t 0⟩).setR t 0 (s.val (s.reg t 5) 1) := rfl
      rw [he, r5]
      exact ⟨by show s.here (s.reg t 5) = true; rw [r5]; exact I.hq, _, _, h1, rfl, fun _ => rfl, h2⟩
    | 6, hx, gj, gn, e0, Lo =>
      obtain ⟨to, rfl⟩ := ins_eq hx
      obtain rfl := gn (noJ (by omega))
      obtain ⟨h1, h2⟩ := I.pu6 ht e0
      exact ⟨h1, same h2⟩
    | 7, hx, gj, gn, e0, Lo =>
      obtain ⟨to, rfl⟩ := ins_eq hx
      exact ⟨trivial, same (I.pu7 ht e0 (gn (noJ (by omega))))⟩
    | _ + 8, hx, gj, gn, e0, Lo => cases hx
  | ta o l =>
    rw [e0] at hx gj gn Lo
    match o, hx, gj, gn, e0, Lo with
    | 0, hx, gj, gn, e0, Lo =>
      obtain ⟨to, rfl⟩ := ins_eq hx
      obtain rfl := gn (noJ (by omega))
      exact ⟨trivial, same (I.ta0 ht e0)⟩
    | 1, hx, gj, gn, e0, Lo =>
      obtain ⟨to, rfl⟩ := ins_eq hx
      obtain rfl := gn (noJ (by omega))
      exact ⟨trivial, same (I.ta1 ht e0)⟩
    | 2, hx, gj, gn, e0, Lo =>
      obtain ⟨to, rfl⟩ := ins_eq hx
      obtain rfl := gn (noJ (by omega))
      exact ⟨trivial, same (I.ta2 ht e0)⟩
    | 3, hx, gj, gn, e0, Lo =>
      obtain ⟨to, rfl⟩ := ins_eq hx
      obtain rfl := gn (noJ (by omega))
      have hb := hf (.inr (.inl rfl))
      refine ⟨by show s.here (s.reg t 5) = true; rw [r5]; exact I.hq, same ?_⟩
      have he : s.ex t ⟨9, 5, 0, 2, to⟩ tg = (if s.val (s.reg t 5) 2 = s.reg t 0 then s.put ⟨s.reg t 5, 2, s.reg t 1⟩ else s).setR t 0 (s.val (s.reg t 5) 2) := rfl
      rw [he, r5, Lo.2.2.1]
      by_cases h : s.val q 2 = 0
      · rw [if_pos h]; exact I.ta3 ht e0 hb h
      · rw [if_neg h]; exact I.ta3n ht e0 hb h
    | 4, hx, gj, gn, e0, Lo =>
      obtain ⟨to, rfl⟩ := ins_eq hx
      refine ⟨trivial, same ?_⟩
      by_cases h : s.reg t 0 = 0
      · obtain rfl := gj (.inl ⟨rfl, h⟩)
        have he : s.ex t ⟨14, 0, 0, 0, to⟩ tg = s.setP t tg := if_pos h
        rw [he]; exact (I.ta4j ht e0 h).pc _ _
      · obtain rfl := gn (fun g => by rcases g with ⟨_, g⟩ | ⟨g, _⟩ | g <;> first | exact h g | (simp at g; done))
        have he : s.ex t ⟨14, 0, 0, 0, to⟩ tg = s := if_neg h
        rw [he]; exact I.ta4 ht e0 h
    | 5, hx, gj, gn, e0, Lo =>
      obtain ⟨to, rfl⟩ := ins_eq hx
      obtain rfl := gj (.inr (.inr rfl))
      exact ⟨trivial, same ((I.ta5 ht e0).pc _ _)⟩
    | 6, hx, gj, gn, e0, Lo =>
      obtain ⟨to, rfl⟩ := ins_eq hx
      obtain rfl := gn (noJ (by omega))
      exact ⟨trivial, same (I.ta6 ht e0)⟩
    | 7, hx, gj, gn, e0, Lo =>
      obtain ⟨to, rfl⟩ := ins_eq hx
      obtain rfl := gn (noJ (by omega))
      exact ⟨trivial, same (I.ta7 ht e0)⟩
    | 8, hx, gj, gn, e0, Lo =>
      obtain ⟨to, rfl⟩ := ins_eq hx
      obtain rfl := gn (noJ (by omega))
      have he : s.ex t ⟨6, 0, 5, 0, to⟩ tg = s.setR t 0 (s.vw t (s.reg t 5) 0) := rfl
      rw [he, r5]
      exact ⟨by show s.here (s.reg t 5) = true; rw [r5]; exact I.hq, same (I.ta8 ht e0)⟩
    | 9, hx, gj, gn, e0, Lo =>
      obtain ⟨to, rfl⟩ := ins_eq hx
      obtain rfl := gn (noJ (by omega))
      obtain ⟨h1, h2⟩ := I.ta9 ht e0
      exact ⟨h1, same h2⟩
    | 10, hx, gj, gn, e0, Lo =>
      obtain ⟨to, rfl⟩ := ins_eq hx
      refine ⟨trivial, same ?_⟩
      by_cases h : s.reg t 2 = 0
      · obtain rfl := gj (.inl ⟨rfl, h⟩)
        have he : s.ex t ⟨14, 2, 0, 0, to⟩ tg = s.setP t tg := if_pos h
        rw [he]; exact (I.ta10j ht e0).pc _ _
      · obtain rfl := gn (fun g => by rcases g with ⟨_, g⟩ | ⟨g, _⟩ | g <;> first | exact h g | (simp at g; done))
        have he : s.ex t ⟨14, 2, 0, 0, to⟩ tg = s := if_neg h
        rw [he]; exact I.ta10 ht e0 h
    | 11, hx, gj, gn, e0, Lo =>
      obtain ⟨to, rfl⟩ := ins_eq hx
      obtain rfl := gn (noJ (by omega))
      obtain ⟨ch', G', h1, h2, h3, h4⟩ := I.ta11 ht e0
      have he : s.ex t ⟨7, 5, 2, 0, to⟩ tg = s.setB t (s.buf t ++ [⟨s.reg t 5, 0, s.reg t 2⟩]) := rfl
      rw [he, r5]
      refine ⟨by show s.here (s.reg t 5) = true; rw [r5]; exact I.hq, ch', G', h1, h2, fun _ => h3, h4⟩
    | 12, hx, gj, gn, e0, Lo =>
      obtain ⟨to, rfl⟩ := ins_eq hx
      obtain rfl := gn (noJ (by omega))
      obtain ⟨h1, h2⟩ := I.ta12 ht e0
      exact ⟨h1, same h2⟩
    | 13, hx, gj, gn, e0, Lo =>
      obtain ⟨to, rfl⟩ := ins_eq hx
      obtain rfl := gn (noJ (by omega))
      exact ⟨trivial, same (I.ta13 ht e0)⟩
    | 14, hx, gj, gn, e0, Lo =>
      obtain ⟨to, rfl⟩ := ins_eq hx
      obtain rfl := gj (.inr (.inr rfl))
      exact ⟨trivial, same ((I.ta14 ht e0).pc _ _)⟩
    | 15, hx, gj, gn, e0, Lo =>
      obtain ⟨to, rfl⟩ := ins_eq hx
      obtain rfl := gn (noJ (by omega))
      exact ⟨trivial, same (I.ta15 ht e0)⟩
    | 16, hx, gj, gn, e0, Lo =>
      obtain ⟨to, rfl⟩ := ins_eq hx
      obtain rfl := gn (noJ (by omega))
      exact ⟨by show s.here (s.reg t 5) = true; rw [r5]; exact I.hq, same (I.ta16 ht e0 _)⟩
    | 17, hx, gj, gn, e0, Lo =>
      obtain ⟨to, rfl⟩ := ins_eq hx
      refine ⟨trivial, same ?_⟩
      by_cases h : s.reg t 0 = s.reg t 1
      · obtain rfl := gj (.inr (.inl ⟨rfl, h⟩))
        have he : s.ex t ⟨15, 0, 1, 0, to⟩ tg = s.setP t tg := if_pos h
        rw [he]; exact (I.ta17j ht e0).pc _ _
      · obtain rfl := gn (fun g => by rcases g with ⟨g, _⟩ | ⟨_, g⟩ | g <;> first | exact h g | (simp at g; done))
        have he : s.ex t ⟨15, 0, 1, 0, to⟩ tg = s := if_neg h
        rw [he]; exact I.ta17 ht e0
    | 18, hx, gj, gn, e0, Lo =>
      obtain ⟨to, rfl⟩ := ins_eq hx
      obtain rfl := gj (.inr (.inr rfl))
      exact ⟨trivial, same ((I.ta18 ht e0).pc _ _)⟩
    | 19, hx, gj, gn, e0, Lo =>
      obtain ⟨to, rfl⟩ := ins_eq hx
      obtain rfl := gn (noJ (by omega))
      exact ⟨trivial, same (I.ta19 ht e0)⟩
    | 20, hx, gj, gn, e0, Lo =>
      obtain ⟨to, rfl⟩ := ins_eq hx
      obtain rfl := gn (noJ (by omega))
      exact ⟨trivial, same (I.ta20 ht e0)⟩
    | 21, hx, gj, gn, e0, Lo =>
      obtain ⟨to, rfl⟩ := ins_eq hx
      obtain rfl := gn (noJ (by omega))
      exact ⟨trivial, same (I.ta21 ht e0)⟩
    | 22, hx, gj, gn, e0, Lo =>
      obtain ⟨to, rfl⟩ := ins_eq hx
      obtain rfl := gn (noJ (by omega))
      exact ⟨trivial, same (I.ta22 ht e0)⟩
    | 23, hx, gj, gn, e0, Lo =>
      obtain ⟨to, rfl⟩ := ins_eq hx
      obtain rfl := gn (noJ (by omega))
      exact ⟨trivial, same (I.ta23 ht e0)⟩
    | 24, hx, gj, gn, e0, Lo =>
      obtain ⟨to, rfl⟩ := ins_eq hx
      obtain rfl := gn (noJ (by omega))
      have he : s.ex t ⟨7, 5, 0, 2, to⟩ tg = s.setB t (s.buf t ++ [⟨s.reg t 5, 2, s.reg t 0⟩]) := rfl
      rw [he, r5]
      exact ⟨by show s.here (s.reg t 5) = true; rw [r5]; exact I.hq, same (I.ta24 ht e0)⟩
    | 25, hx, gj, gn, e0, Lo =>
      obtain ⟨to, rfl⟩ := ins_eq hx
      obtain rfl := gn (noJ (by omega))
      exact ⟨trivial, same (I.ta25 ht e0 (hf (.inr (.inr (.inr rfl)))))⟩
    | 26, hx, gj, gn, e0, Lo =>
      obtain ⟨to, rfl⟩ := ins_eq hx
      refine ⟨trivial, same ?_⟩
      by_cases h : s.reg t 3 = 0
      · obtain rfl := gj (.inl ⟨rfl, h⟩)
        have he : s.ex t ⟨14, 3, 0, 0, to⟩ tg = s.setP t tg := if_pos h
        rw [he]; exact (I.ta26j ht e0 h).pc _ _
      · obtain rfl := gn (fun g => by rcases g with ⟨_, g⟩ | ⟨g, _⟩ | g <;> first | exact h g | (simp at g; done))
        have he : s.ex t ⟨14, 3, 0, 0, to⟩ tg = s := if_neg h
        rw [he]; exact I.ta26 ht e0 h
    | 27, hx, gj, gn, e0, Lo => obtain ⟨to, rfl⟩ := ins_eq hx; exact absurd rfl h18
    | 28, hx, gj, gn, e0, Lo =>
      obtain ⟨to, rfl⟩ := ins_eq hx
      obtain rfl := gn (noJ (by omega))
      obtain ⟨h1, h2⟩ := I.ta28 ht e0
      exact ⟨h1, same h2⟩
    | 29, hx, gj, gn, e0, Lo =>
      obtain ⟨to, rfl⟩ := ins_eq hx
      exact ⟨trivial, same (I.ta29 ht e0 (gn (noJ (by omega))))⟩
    | _ + 30, hx, gj, gn, e0, Lo => cases hx
end Qu
end
