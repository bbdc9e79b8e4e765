/- Texts that belong together, joined. -/

set_option linter.unusedVariables false
set_option linter.unusedSimpArgs false
set_option linter.unusedSectionVars false
/- The plain model of the reference machine of the seed 'quiescent' (chapters 1 to 4): cells, stores that wait, threads, turns. Plain data and functions; no program in sight. -/
section
namespace Qs

/-- An instruction: its op as a number (see opName), its three numbers, its label. -/
structure Instr where
  op : Nat
  A : Int
  B : Int
  C : Int
  to : List UInt8
deriving DecidableEq

structure Cell where
  words : List Int
  times : Int
  here : Bool
deriving DecidableEq

/-- A store that waits: the cell, its gen, the word, the value. -/
structure Wt where
  c : Int
  g : Int
  w : Int
  v : Int
deriving DecidableEq

structure Thr where
  code : List Instr
  regs : List Int
  pc : Nat
deriving DecidableEq

structure M where
  cells : List Cell
  waits : List (List Wt)
  T : List Thr
  marks : List (Int × Int)
  faults : Int
deriving DecidableEq

abbrev W32 : Int := 4294967296

def isWord (n : Int) : Bool := decide (0 ≤ n) && decide (n < W32)

def cellAt (l : List Cell) (c : Int) : Option Cell := if c < 0 then none else l[c.toNat]?

def hereIn (l : List Cell) (c g : Int) : Bool :=
  match cellAt l c with
  | some x => x.here && decide (g = x.times - 1)
  | none => false

/-- The cell and gen of a word that is none of 0. -/
def refOf (n : Int) : Option (Int × Int) :=
  if n = 0 then none else if isWord n then some ((n - 1) % 64, (n - 1) / 64) else none

/-- The word of a ref: 0 where there is none. -/
def wordOf (c g : Int) : Int :=
  if 0 ≤ c ∧ c < 64 ∧ 0 ≤ g ∧ g ≤ 67108864 ∧ isWord (g * 64 + c + 1) then g * 64 + c + 1 else 0

def setWord (l : List Cell) (c : Nat) (w : Nat) (v : Int) : List Cell :=
  l.modify c fun x => { x with words := x.words.set w v }

def getWord (l : List Cell) (c : Nat) (w : Nat) : Int := ((l[c]?).map fun x => x.words.getD w 0).getD 0

/-- What a thread reads: the last store that waits, else memory. -/
def look (ws : List Wt) (c g w : Int) (v : Int) : Int :=
  ws.foldl (fun v x => if x.c = c ∧ x.g = g ∧ x.w = w then x.v else v) v

/-- A drained store: the cells behind it, and whether its cell was gone. -/
def drain1 (l : List Cell) (x : Wt) : List Cell × Bool :=
  if hereIn l x.c x.g then (setWord l x.c.toNat x.w.toNat x.v, false) else (l, true)

def drainAll : List Cell → List Wt → List Cell × Nat
  | l, [] => (l, 0)
  | l, x :: r =>
    let a := drain1 l x
    let b := drainAll a.1 r
    (b.1, b.2 + (if a.2 then 1 else 0))

def M.waitsOf (m : M) (t : Nat) : List Wt := m.waits.getD t []

/-- Fence of a thread. -/
def M.fence (m : M) (t : Nat) : M :=
  let a := drainAll m.cells (m.waitsOf t)
  { m with cells := a.1, waits := m.waits.set t [], faults := m.faults + a.2 }

def M.force (m : M) : Nat → M
  | 0 => m
  | k + 1 => (m.force k).fence k

/-- Drain of a thread: the error's number (0: none; 5: nothing waits), a fault noted. -/
def M.drain (m : M) (t : Nat) : M × Int :=
  match m.waitsOf t with
  | [] => (m, 5)
  | x :: r =>
    let a := drain1 m.cells x
    ({ m with cells := a.1, waits := m.waits.set t r, faults := m.faults + (if a.2 then 1 else 0) }, 0)

/-- Where a label is set first. -/
def labelAt (to : List UInt8) : List Instr → Nat → Option Nat
  | [], _ => none
  | x :: r, i => if x.op = 17 ∧ x.to = to then some i else labelAt to r (i + 1)

def allocAt : List Cell → Nat → Option (Nat × Int)
  | [], _ => none
  | x :: r, i => if x.here then allocAt r (i + 1) else some (i, x.times)

def Thr.reg (h : Thr) (a : Int) : Int := h.regs.getD a.toNat 0

def M.thr (m : M) (t : Nat) : Thr := m.T.getD t ⟨[], [], 0⟩

def M.setReg (m : M) (t : Nat) (a : Int) (v : Int) : M :=
  { m with T := m.T.modify t fun h => { h with regs := h.regs.set a.toNat v } }

def M.setPc (m : M) (t : Nat) (p : Nat) : M :=
  { m with T := m.T.modify t fun h => { h with pc := p } }

/-- The cell that a word names, if it is there. -/
def M.names (m : M) (n : Int) : Option (Int × Int) :=
  match refOf n with
  | some (c, g) => if hereIn m.cells c g then some (c, g) else none
  | none => none

def M.fault (m : M) : M := { m with faults := m.faults + 1 }

def M.done (m : M) (t : Nat) : Bool :=
  match (m.thr t).code[(m.thr t).pc]? with
  | none => true
  | some x => x.op == 20

def M.jump (m : M) (t : Nat) (to : List UInt8) : M := m.setPc t ((labelAt to (m.thr t).code 0).getD 0)

def sum2 (op : Nat) (a b : Int) : Int :=
  match op with
  | 2 => if a + b ≥ W32 then a + b - W32 else a + b
  | 3 => if a - b < 0 then a - b + W32 else a - b
  | 4 => ((a.toNat &&& b.toNat : Nat) : Int)
  | _ => ((a.toNat ^^^ b.toNat : Nat) : Int)

/-- An instruction of a thread whose place is beyond it already. -/
def M.exec (m : M) (t : Nat) (x : Instr) : M :=
  let h := m.thr t
  match x.op with
  | 0 => m.setReg t x.A x.B
  | 1 => m.setReg t x.A (h.reg x.B)
  | 2 => m.setReg t x.A (sum2 2 (h.reg x.B) (h.reg x.C))
  | 3 => m.setReg t x.A (sum2 3 (h.reg x.B) (h.reg x.C))
  | 4 => m.setReg t x.A (sum2 4 (h.reg x.B) (h.reg x.C))
  | 5 => m.setReg t x.A (sum2 5 (h.reg x.B) (h.reg x.C))
  | 6 => match m.names (h.reg x.B) with
    | some (c, g) => m.setReg t x.A (look (m.waitsOf t) c g x.C (getWord m.cells c.toNat x.C.toNat))
    | none => m.fault.setReg t x.A 0
  | 7 => match m.names (h.reg x.A) with
    | some (c, g) =>
      let m1 := if (m.waitsOf t).length ≥ 8 then (m.drain t).1 else m
      { m1 with waits := m1.waits.modify t fun l => l ++ [⟨c, g, x.C, h.reg x.B⟩] }
    | none => m.fault
  | 8 => match m.names (h.reg x.B) with
    | some (c, _) =>
      let m1 := m.fence t
      ({ m1 with cells := setWord m1.cells c.toNat x.C.toNat (h.reg x.A) } : M).setReg t x.A (getWord m1.cells c.toNat x.C.toNat)
    | none => m.fault.setReg t x.A 0
  | 9 => match m.names (h.reg x.A) with
    | some (c, _) =>
      let m1 := m.fence t
      let v := getWord m1.cells c.toNat x.C.toNat
      (if v = h.reg x.B then ({ m1 with cells := setWord m1.cells c.toNat x.C.toNat (h.reg (x.B + 1)) } : M) else m1).setReg t x.B v
    | none => m.fault.setReg t x.B 0
  | 10 => match allocAt m.cells 0 with
    | some (i, n) => ({ m with cells := m.cells.set i ⟨[0, 0, 0, 0], n + 1, true⟩ } : M).setReg t x.A (wordOf i n)
    | none => m.setReg t x.A 0
  | 11 => match m.names (h.reg x.A) with
    | some (c, _) =>
      let m1 := m.fence t
      { m1 with cells := m1.cells.modify c.toNat fun y => { y with here := false } }
    | none => m.fault
  | 12 => m.fence t
  | 13 => m.force m.T.length
  | 14 => if h.reg x.A = 0 then m.jump t x.to else m
  | 15 => if h.reg x.A = h.reg x.B then m.jump t x.to else m
  | 16 => m.jump t x.to
  | 18 => if m.marks.length < 500 then { m with marks := m.marks ++ [((t : Int), h.reg x.A)] } else m
  | 19 => if h.reg x.A = 0 then m.fault else m
  | _ => m

/-- A step of a thread (9: it is done). -/
def M.step (m : M) (t : Nat) : M × Int :=
  match (m.thr t).code[(m.thr t).pc]? with
  | none => (m, 9)
  | some x => if x.op = 20 then (m, 9) else ((m.setPc t ((m.thr t).pc + 1)).exec t x, 0)

/-- A turn by a number. -/
def M.turn (m : M) (n : Int) : M × Int :=
  let k := (n % (2 * (m.T.length : Int))).toNat
  if k < m.T.length then m.step k else m.drain (k - m.T.length)

/-- A run, and how many numbers had no error. -/
def M.run : M → List Int → M × Int
  | m, [] => (m, 0)
  | m, n :: r =>
    let a := m.turn n
    let b := a.1.run r
    (b.1, b.2 + (if a.2 = 0 then 1 else 0))

def M.rest (m : M) : Bool := (List.range m.T.length).all fun t => m.done t && (m.waitsOf t).isEmpty

def M.count (m : M) : Int := ((m.cells.filter (·.here)).length : Int)

end Qs
end
/- The code of a lock's customer (statements SpinSafe, SpinEnds), as plain data. -/
section
namespace Qs
/-- A label of round i: k, the digit, a or b, and its end. -/
def spLab (i : Nat) (s : Nat) : List UInt8 := [107, UInt8.ofNat (48 + i), 97, 46, UInt8.ofNat (97 + s)]
def spRound (a b : List UInt8) : List Instr :=
  [⟨17, 0, 0, 0, a⟩, ⟨0, 0, 0, 0, []⟩, ⟨0, 1, 1, 0, []⟩, ⟨9, 7, 0, 0, []⟩, ⟨14, 0, 0, 0, b⟩, ⟨16, 0, 0, 0, a⟩, ⟨17, 0, 0, 0, b⟩,
   ⟨6, 2, 7, 1, []⟩, ⟨0, 3, 1, 0, []⟩, ⟨5, 4, 2, 3, []⟩, ⟨19, 4, 0, 0, []⟩, ⟨7, 7, 3, 1, []⟩, ⟨6, 2, 7, 2, []⟩, ⟨2, 2, 2, 3, []⟩, ⟨7, 7, 2, 2, []⟩, ⟨0, 4, 0, 0, []⟩, ⟨7, 7, 4, 1, []⟩,
   ⟨0, 0, 0, 0, []⟩, ⟨7, 7, 0, 0, []⟩, ⟨12, 0, 0, 0, []⟩]
def spCode : Nat → List Instr
  | 0 => []
  | n + 1 => spCode n ++ spRound (spLab n 0) (spLab n 1)
def spCell (l : List Int) : List Cell := [⟨l, 1, true⟩]
def spStart (th n : Nat) : M := ⟨spCell [0, 0, 0, 0], List.replicate th [], List.replicate th ⟨spCode n, [0, 0, 0, 0, 0, 0, 0, 1], 0⟩, [], 0⟩
/-- Turns by rising numbers from i on. -/
def M.goes (m : M) : Nat → Nat → M
  | 0, _ => m
  | k + 1, i => ((m.turn i).1).goes k (i + 1)
end Qs
end
/- A machine at rest stays as it is, whatever the number. -/
section
namespace Qs
theorem M.step_done {m : M} {t : Nat} (h : m.done t = true) : m.step t = (m, 9) := by
  unfold M.done at h
  unfold M.step
  cases e : (m.thr t).code[(m.thr t).pc]? with
  | none => rfl
  | some x => rw [e] at h; simp only [beq_iff_eq] at h; simp [h]
theorem M.drain_nil {m : M} {t : Nat} (h : m.waitsOf t = []) : m.drain t = (m, 5) := by
  unfold M.drain; rw [h]
theorem M.rest_iff {m : M} : m.rest = true ↔ ∀ t, t < m.T.length → m.done t = true ∧ m.waitsOf t = [] := by
  unfold M.rest
  simp [List.all_eq_true]
theorem M.rest_turn {m : M} (h : m.rest = true) (h0 : 0 < m.T.length) (n : Int) : (m.turn n).1 = m := by
  have hr := M.rest_iff.1 h
  have h1 := Int.emod_lt_of_pos n (show (0 : Int) < 2 * (m.T.length : Int) by omega)
  have h2 := Int.emod_nonneg n (show (2 * (m.T.length : Int)) ≠ 0 by omega)
  unfold M.turn
  simp only []
  split
  · rename_i hk; rw [M.step_done (hr _ hk).1]
  · rename_i hk
    rw [M.drain_nil (hr _ (by omega)).2]
theorem M.goes_add (a b i : Nat) (m : M) : m.goes (a + b) i = (m.goes a i).goes b (i + a) := by
  induction a generalizing m i with
  | zero => simp [M.goes]
  | succ a ih =>
    rw [show a + 1 + b = (a + b) + 1 from by omega]
    show ((m.turn i).1).goes (a + b) (i + 1) = (((m.turn i).1).goes a (i + 1)).goes b (i + (a + 1))
    rw [ih, show i + 1 + a = i + (a + 1) from by omega]
theorem M.goes_rest {m : M} (h : m.rest = true) (h0 : 0 < m.T.length) (k i : Nat) : m.goes k i = m := by
  induction k generalizing i with
  | zero => rfl
  | succ k ih =>
    show ((m.turn i).1).goes k (i + 1) = m
    rw [M.rest_turn h h0, ih]
end Qs
end
/- The customers of a lock as small tuples; that the machine's turns are theirs. -/
section
namespace Qs
/-- A thread: round i, place q in it, registers 0 to 4, what waits (word, value). -/
structure LS where
  i : Nat
  q : Nat
  r0 : Int
  r1 : Int
  r2 : Int
  r3 : Int
  r4 : Int
  buf : List (Nat × Int)
/-- Words 0 to 2 of the cell. -/
structure WS where
  w0 : Int
  w1 : Int
  w2 : Int
def WS.list (s : WS) : List Int := [s.w0, s.w1, s.w2, 0]
def WS.put (s : WS) (x : Nat × Int) : WS :=
  match x.1 with
  | 0 => { s with w0 := x.2 }
  | 1 => { s with w1 := x.2 }
  | _ => { s with w2 := x.2 }
def WS.puts (s : WS) (l : List (Nat × Int)) : WS := l.foldl WS.put s
def lk (l : List (Nat × Int)) (w : Nat) (v : Int) : Int := l.foldl (fun v x => if x.1 = w then x.2 else v) v
def LS.thr (n : Nat) (s : LS) : Thr := ⟨spCode n, [s.r0, s.r1, s.r2, s.r3, s.r4, 0, 0, 1], 20 * s.i + s.q⟩
def LS.wts (s : LS) : List Wt := s.buf.map fun x => ⟨0, 0, (x.1 : Int), x.2⟩
structure Rel (n : Nat) (m : M) (ws : WS) (ls : List LS) : Prop where
  cells : m.cells = [⟨ws.list, 1, true⟩]
  T : m.T = ls.map (LS.thr n)
  waits : m.waits = ls.map LS.wts
  faults : m.faults = 0
def okBuf (l : List (Nat × Int)) : Prop := ∀ x ∈ l, x.1 < 3
def lstep (ws : WS) (s : LS) : WS × LS :=
  match s.q with
  | 1 => (ws, { s with q := 2, r0 := 0 })
  | 2 => (ws, { s with q := 3, r1 := 1 })
  | 3 =>
    let w := ws.puts s.buf
    (if w.w0 = s.r0 then { w with w0 := s.r1 } else w, { s with q := 4, buf := [], r0 := w.w0 })
  | 4 => (ws, { s with q := if s.r0 = 0 then 6 else 5 })
  | 5 => (ws, { s with q := 0 })
  | 7 => (ws, { s with q := 8, r2 := lk s.buf 1 ws.w1 })
  | 8 => (ws, { s with q := 9, r3 := 1 })
  | 9 => (ws, { s with q := 10, r4 := sum2 5 s.r2 s.r3 })
  | 11 => (ws, { s with q := 12, buf := s.buf ++ [(1, s.r3)] })
  | 12 => (ws, { s with q := 13, r2 := lk s.buf 2 ws.w2 })
  | 13 => (ws, { s with q := 14, r2 := sum2 2 s.r2 s.r3 })
  | 14 => (ws, { s with q := 15, buf := s.buf ++ [(2, s.r2)] })
  | 15 => (ws, { s with q := 16, r4 := 0 })
  | 16 => (ws, { s with q := 17, buf := s.buf ++ [(1, s.r4)] })
  | 17 => (ws, { s with q := 18, r0 := 0 })
  | 18 => (ws, { s with q := 19, buf := s.buf ++ [(0, s.r0)] })
  | 19 => (ws.puts s.buf, { s with i := s.i + 1, q := 0, buf := [] })
  | q => (ws, { s with q := q + 1 })
theorem code_at : ∀ n, n ≤ 3 → ∀ i, i < n → ∀ q, q < 20 → (spCode n)[20 * i + q]? = (spRound (spLab i 0) (spLab i 1))[q]? := by decide +kernel
theorem code_end : ∀ n, n ≤ 3 → (spCode n)[20 * n]? = none := by decide +kernel
theorem lab_a : ∀ n, n ≤ 3 → ∀ i, i < n → labelAt (spLab i 0) (spCode n) 0 = some (20 * i) := by decide +kernel
theorem lab_b : ∀ n, n ≤ 3 → ∀ i, i < n → labelAt (spLab i 1) (spCode n) 0 = some (20 * i + 6) := by decide +kernel
theorem drain1_ws (ws : WS) (x : Nat × Int) (h : x.1 < 3) : drain1 [⟨ws.list, 1, true⟩] ⟨0, 0, (x.1 : Int), x.2⟩ = ([⟨(ws.put x).list, 1, true⟩], false) := by
  obtain ⟨k, v⟩ := x
  have : k = 0 ∨ k = 1 ∨ k = 2 := by simp at h; omega
  rcases this with rfl | rfl | rfl <;> rfl
theorem drainAll_ws (l : List (Nat × Int)) : ∀ (ws : WS), okBuf l → drainAll [⟨ws.list, 1, true⟩] (l.map fun x => ⟨0, 0, (x.1 : Int), x.2⟩) = ([⟨(ws.puts l).list, 1, true⟩], 0) := by
  induction l with
  | nil => intro ws _; rfl
  | cons x l ih =>
    intro ws h
    simp only [List.map_cons, drainAll, drain1_ws ws x (h x (by simp))]
    rw [ih (ws.put x) (fun y hy => h y (by simp [hy]))]
    rfl
theorem look_ws (l : List (Nat × Int)) (w : Nat) : ∀ v, look (l.map fun x => ⟨0, 0, (x.1 : Int), x.2⟩) 0 0 (w : Int) v = lk l w v := by
  induction l with
  | nil => intro v; rfl
  | cons x l ih =>
    intro v
    show look (l.map fun x => ⟨0, 0, (x.1 : Int), x.2⟩) 0 0 (w : Int) _ = lk l w _
    rw [ih]
    congr 1
    simp only [true_and]
    by_cases e : x.1 = w
    · simp [e]
    · rw [if_neg e, if_neg (by omega)]
variable {n t : Nat} {m : M} {ws : WS} {ls : List LS} {s : LS}
theorem Rel.thr (h : Rel n m ws ls) (ht : ls[t]? = some s) : m.thr t = s.thr n := by
  simp [M.thr, h.T, List.getD, List.getElem?_map, ht]
theorem Rel.wts (h : Rel n m ws ls) (ht : ls[t]? = some s) : m.waitsOf t = s.wts := by
  simp [M.waitsOf, h.waits, List.getD, List.getElem?_map, ht]
end Qs
end
/- That a step of the machine is a step of the tuples. -/
section
namespace Qs
theorem modify_set {α : Type} {l : List α} {t : Nat} {a : α} (f : α → α) (h : l[t]? = some a) : l.modify t f = l.set t (f a) := by
  apply List.ext_getElem?
  intro i
  rw [List.getElem?_modify, List.getElem?_set]
  obtain ⟨hlt, hv⟩ := List.getElem?_eq_some_iff.1 h
  by_cases e : t = i
  · subst e; rw [if_pos rfl]; simp [hlt, hv]
  · simp [e]
theorem set_map {α β : Type} (g : α → β) (l : List α) (t : Nat) (a : α) : (l.map g).set t (g a) = (l.set t a).map g := (List.map_set).symm
variable {n t : Nat} {m : M} {ws : WS} {ls : List LS} {s : LS}
theorem Rel.lt (h : Rel n m ws ls) (ht : ls[t]? = some s) : t < m.T.length := by
  rw [h.T, List.length_map]; exact (List.getElem?_eq_some_iff.1 ht).1
/-- The machine with a thread's place moved on. -/
theorem Rel.pc (h : Rel n m ws ls) (ht : ls[t]? = some s) (p : Nat) :
    m.setPc t p = { m with T := m.T.set t ⟨spCode n, [s.r0, s.r1, s.r2, s.r3, s.r4, 0, 0, 1], p⟩ } := by
  unfold M.setPc
  rw [modify_set (a := s.thr n) _ (by rw [h.T, List.getElem?_map, ht]; rfl)]
  rfl
theorem thr_set (m : M) (h : Thr) (ht : t < m.T.length) : M.thr { m with T := m.T.set t h } t = h := by
  simp [M.thr, List.getD, ht]
theorem setReg_set (m : M) (h : Thr) (ht : t < m.T.length) (a v : Int) :
    M.setReg { m with T := m.T.set t h } t a v = { m with T := m.T.set t { h with regs := h.regs.set a.toNat v } } := by
  unfold M.setReg
  rw [modify_set (a := h) _ (by simp [ht])]
  simp
theorem setPc_set (m : M) (h : Thr) (ht : t < m.T.length) (p : Nat) :
    M.setPc { m with T := m.T.set t h } t p = { m with T := m.T.set t { h with pc := p } } := by
  unfold M.setPc
  rw [modify_set (a := h) _ (by simp [ht])]
  simp
theorem names_one {m : M} (h : m.cells = [⟨ws.list, 1, true⟩]) : m.names 1 = some (0, 0) := by
  simp [M.names, refOf, isWord, hereIn, cellAt, h, W32]
/-- What a step makes of a thread that touches no memory. -/
theorem mk_local (h : Rel n m ws ls) (s' : LS) (hb : s'.buf = s.buf) (ht : ls[t]? = some s) :
    Rel n { m with T := m.T.set t (s'.thr n) } ws (ls.set t s') := by
  refine ⟨h.cells, ?_, ?_, h.faults⟩
  · rw [h.T, set_map]
  · rw [h.waits]
    show ls.map LS.wts = (ls.set t s').map LS.wts
    rw [← set_map, show LS.wts s' = LS.wts s from by simp [LS.wts, hb]]
    apply List.ext_getElem?
    intro i
    rw [List.getElem?_set]
    obtain ⟨hl, hv⟩ := List.getElem?_eq_some_iff.1 ht
    by_cases e : t = i
    · subst e; simp [hl, hv]
    · simp [e]
theorem mk_store (h : Rel n m ws ls) (s' : LS) (x : Nat × Int) (hb : s'.buf = s.buf ++ [x]) (ht : ls[t]? = some s) :
    Rel n { m with T := m.T.set t (s'.thr n), waits := m.waits.modify t fun l => l ++ [⟨0, 0, (x.1 : Int), x.2⟩] } ws (ls.set t s') := by
  refine ⟨h.cells, ?_, ?_, h.faults⟩
  · show m.T.set t (s'.thr n) = _
    rw [h.T, set_map]
  · show m.waits.modify t _ = _
    rw [modify_set (a := s.wts) _ (by rw [h.waits, List.getElem?_map, ht]; rfl), h.waits, ← set_map]
    congr 1
    simp [LS.wts, hb]
theorem fence_eq (h : Rel n m ws ls) (ht : ls[t]? = some s) (ho : okBuf s.buf) :
    m.fence t = { m with cells := [⟨(ws.puts s.buf).list, 1, true⟩], waits := m.waits.set t [] } := by
  unfold M.fence
  rw [h.wts ht, h.cells]
  simp only [LS.wts, drainAll_ws _ _ ho]
  simp [h.faults]
theorem mk_fence (h : Rel n m ws ls) (s' : LS) (ws' : WS) (hb : s'.buf = []) :
    Rel n { m with cells := [⟨ws'.list, 1, true⟩], T := m.T.set t (s'.thr n), waits := m.waits.set t [] } ws' (ls.set t s') := by
  refine ⟨rfl, ?_, ?_, h.faults⟩
  · show m.T.set t (s'.thr n) = _
    rw [h.T, set_map]
  · show m.waits.set t [] = _
    rw [h.waits, ← set_map]
    simp [LS.wts, hb]
theorem mk_local' (h : Rel n m ws ls) (ht : ls[t]? = some s) {s' : LS} {x : Thr} (hx : x = s'.thr n) (hb : s'.buf = s.buf) :
    Rel n { m with T := m.T.set t x } ws (ls.set t s') := hx ▸ mk_local h s' hb ht
theorem mk_store' (h : Rel n m ws ls) (ht : ls[t]? = some s) {s' : LS} {x : Thr} {y : Nat × Int} {z : Wt} (hx : x = s'.thr n) (hb : s'.buf = s.buf ++ [y]) (hz : z = ⟨0, 0, (y.1 : Int), y.2⟩) :
    Rel n { m with T := m.T.set t x, waits := m.waits.modify t fun l => l ++ [z] } ws (ls.set t s') := by
  subst hx; subst hz; exact mk_store h s' y hb ht
theorem mk_fence' (h : Rel n m ws ls) {s' : LS} {ws' : WS} {x : Thr} {c : List Cell} (hx : x = s'.thr n) (hb : s'.buf = []) (hc : c = [⟨ws'.list, 1, true⟩]) :
    Rel n { m with cells := c, T := m.T.set t x, waits := m.waits.set t [] } ws' (ls.set t s') := by
  subst hx; subst hc; exact mk_fence h s' ws' hb
theorem fence_eq' (h : Rel n m ws ls) (ht : ls[t]? = some s) (ho : okBuf s.buf) (T' : List Thr) :
    M.fence { m with T := T' } t = { m with cells := [⟨(ws.puts s.buf).list, 1, true⟩], T := T', waits := m.waits.set t [] } := by
  have := fence_eq h ht ho
  unfold M.fence at this ⊢
  simp only [M.waitsOf, M.mk.injEq] at this ⊢
  exact ⟨this.1, this.2.1, trivial, trivial, this.2.2.2.2⟩
theorem reg7 (r0 r1 r2 r3 r4 : Int) : ([r0, r1, r2, r3, r4, 0, 0, 1] : List Int).getD (Int.toNat 7) 0 = 1 := rfl
/-- A step of a thread within its rounds. -/
theorem Rel.step (hn : n ≤ 3) (h : Rel n m ws ls) (ht : ls[t]? = some s) (hi : s.i < n) (hq : s.q < 20) (ho : okBuf s.buf) (hl : s.buf.length < 8) (h10 : s.q = 10 → s.r4 ≠ 0) :
    Rel n (m.step t).1 (lstep ws s).1 (ls.set t (lstep ws s).2) ∧ (m.step t).2 = 0 := by
  have hlt := h.lt ht
  have hc := code_at n hn s.i hi s.q hq
  have ha := lab_a n hn s.i hi
  have hb := lab_b n hn s.i hi
  obtain ⟨i, q, r0, r1, r2, r3, r4, buf⟩ := s
  simp only at hi hq ho hl h10 hc ha hb
  unfold M.step
  rw [h.thr ht]
  simp only [LS.thr]
  rw [hc]
  have hcase : q = 0 ∨ q = 1 ∨ q = 2 ∨ q = 3 ∨ q = 4 ∨ q = 5 ∨ q = 6 ∨ q = 7 ∨ q = 8 ∨ q = 9 ∨ q = 10 ∨ q = 11 ∨ q = 12 ∨ q = 13 ∨ q = 14 ∨ q = 15 ∨ q = 16 ∨ q = 17 ∨ q = 18 ∨ q = 19 := by omega
  rw [h.pc ht]
  have hw : ∀ T', M.waitsOf { m with T := T' } t = buf.map fun x => (⟨0, 0, (x.1 : Int), x.2⟩ : Wt) := fun _ => h.wts ht
  have hnm : ∀ T', M.names { m with T := T' } 1 = some (0, 0) := fun _ => names_one (ws := ws) (by exact h.cells)
  have hlen : ¬ (buf.length ≥ 8) := by omega
  rcases hcase with rfl | rfl | rfl | rfl | rfl | rfl | rfl | rfl | rfl | rfl | rfl | rfl | rfl | rfl | rfl | rfl | rfl | rfl | rfl | rfl
  all_goals simp only [spRound, List.getElem?_cons_zero, List.getElem?_cons_succ, Nat.reduceEqDiff, ↓reduceIte, M.exec, thr_set _ _ hlt, setReg_set _ _ hlt, M.jump, setPc_set _ _ hlt, Thr.reg, lstep, and_true, reg7, hnm, hw, List.length_map, hlen]
  · exact mk_local' h ht (by rfl) (by rfl)
  · exact mk_local' h ht (by rfl) (by rfl)
  · exact mk_local' h ht (by rfl) (by rfl)
  · -- cas
    rw [fence_eq' h ht ho]
    simp only [show (Int.toNat 0) = 0 from rfl, show getWord [⟨(ws.puts buf).list, 1, true⟩] 0 0 = (ws.puts buf).w0 from rfl, show ([r0, r1, r2, r3, r4, 0, 0, 1] : List Int).getD 0 0 = r0 from rfl]
    by_cases e : (ws.puts buf).w0 = r0
    · rw [if_pos e, if_pos e]
      have := fun c => setReg_set (t := t) { m with cells := c, waits := m.waits.set t [] } ⟨spCode n, [r0, r1, r2, r3, r4, 0, 0, 1], 20 * i + 3 + 1⟩ hlt 0 (ws.puts buf).w0
      simp only at this
      rw [this]
      exact mk_fence' h (by rfl) (by rfl) (by rfl)
    · rw [if_neg e, if_neg e]
      have := fun c => setReg_set (t := t) { m with cells := c, waits := m.waits.set t [] } ⟨spCode n, [r0, r1, r2, r3, r4, 0, 0, 1], 20 * i + 3 + 1⟩ hlt 0 (ws.puts buf).w0
      simp only at this
      rw [this]
      exact mk_fence' h (by rfl) (by rfl) (by rfl)
  · -- zero
    simp only [show (Int.toNat 0) = 0 from rfl, show ([r0, r1, r2, r3, r4, 0, 0, 1] : List Int).getD 0 0 = r0 from rfl]
    by_cases e : r0 = 0
    · rw [if_pos e, if_pos e, hb]
      exact mk_local' h ht (by rfl) (by rfl)
    · rw [if_neg e, if_neg e]
      exact mk_local' h ht (by rfl) (by rfl)
  · rw [ha]
    exact mk_local' h ht (by rfl) (by rfl)
  · exact mk_local' h ht (by rfl) (by rfl)
  · rw [show look (buf.map fun x => (⟨0, 0, (x.1 : Int), x.2⟩ : Wt)) 0 0 1 (getWord m.cells (Int.toNat 0) (Int.toNat 1)) = lk buf 1 ws.w1 from by rw [h.cells]; exact look_ws buf 1 _]
    exact mk_local' h ht (by rfl) (by rfl)
  · exact mk_local' h ht (by rfl) (by rfl)
  · exact mk_local' h ht (by rfl) (by rfl)
  · simp only [show ([r0, r1, r2, r3, r4, 0, 0, 1] : List Int).getD (Int.toNat 4) 0 = r4 from rfl]
    rw [if_neg (h10 rfl)]
    exact mk_local' h ht (by rfl) (by rfl)
  · exact mk_store' h ht (by rfl) (by rfl) (by rfl)
  · rw [show look (buf.map fun x => (⟨0, 0, (x.1 : Int), x.2⟩ : Wt)) 0 0 2 (getWord m.cells (Int.toNat 0) (Int.toNat 2)) = lk buf 2 ws.w2 from by rw [h.cells]; exact look_ws buf 2 _]
    exact mk_local' h ht (by rfl) (by rfl)
  · exact mk_local' h ht (by rfl) (by rfl)
  · exact mk_store' h ht (by rfl) (by rfl) (by rfl)
  · exact mk_local' h ht (by rfl) (by rfl)
  · exact mk_store' h ht (by rfl) (by rfl) (by rfl)
  · exact mk_local' h ht (by rfl) (by rfl)
  · exact mk_store' h ht (by rfl) (by rfl) (by rfl)
  · rw [fence_eq' h ht ho]
    exact mk_fence' h (by rfl) (by rfl) (by rfl)
end Qs
end
/- Threads with a lock are never in at once: the invariant of the tuples, kept by each step and each drain. -/
section
namespace Qs
def comp (s : LS) : Nat := s.i + if s.q = 19 ∧ s.buf = [] then 1 else 0
def crit (s : LS) : Prop := (s.q = 4 ∧ s.r0 = 0) ∨ (6 ≤ s.q ∧ s.q ≤ 18) ∨ (s.q = 19 ∧ s.buf ≠ [])
def sts (q : Nat) (N : Int) : List (Nat × Int) :=
  if q ≤ 11 then [] else if q ≤ 14 then [(1, 1)] else if q ≤ 16 then [(1, 1), (2, N + 1)] else if q ≤ 18 then [(1, 1), (2, N + 1), (1, 0)] else [(1, 1), (2, N + 1), (1, 0), (0, 0)]
structure Loc (n : Nat) (s : LS) : Prop where
  i : s.i ≤ n
  q : s.q < 20
  fin : s.i = n → s.q = 0
  c2 : s.q = 2 → s.r0 = 0
  c3 : s.q = 3 → s.r0 = 0 ∧ s.r1 = 1
  c4 : s.q = 4 → s.r0 = 0 ∨ s.r0 = 1
  c5 : s.q = 5 → True
  buf : ¬ crit s → s.buf = []
structure Crit (ws : WS) (s : LS) (N : Int) : Prop where
  mem : ∃ D, sts s.q N = D ++ s.buf ∧ ws = (⟨1, 0, N⟩ : WS).puts D
  a : 8 ≤ s.q ∧ s.q ≤ 9 → s.r2 = 0
  b : 9 ≤ s.q ∧ s.q ≤ 14 → s.r3 = 1
  c : s.q = 10 → s.r4 = 1
  d : s.q = 13 → s.r2 = N
  e : s.q = 14 → s.r2 = N + 1
  f : s.q = 16 → s.r4 = 0
  g : s.q = 18 → s.r0 = 0
def tot (ls : List LS) : Nat := (ls.map comp).sum
structure Inv (n : Nat) (ws : WS) (ls : List LS) : Prop where
  loc : ∀ (t : Nat) s, ls[t]? = some s → Loc n s
  how : (ws = ⟨0, 0, (tot ls : Int)⟩ ∧ ∀ (t : Nat) s, ls[t]? = some s → ¬ crit s) ∨
    ∃ (h : Nat) (s : LS), ls[h]? = some s ∧ crit s ∧ (∀ (t : Nat) u, t ≠ h → ls[t]? = some u → ¬ crit u) ∧ Crit ws s (tot ls : Int)
theorem tot_set : ∀ (ls : List LS) (t : Nat) (s s' : LS), ls[t]? = some s → tot (ls.set t s') + comp s = tot ls + comp s'
  | [], _, _, _, h => by simp at h
  | x :: ls, 0, s, s', h => by
    simp at h; subst h
    simp [tot]; omega
  | x :: ls, t + 1, s, s', h => by
    have := tot_set ls t s s' (by simpa using h)
    simp [tot] at this ⊢; omega
theorem set_cases {ls : List LS} {t k : Nat} {s' u : LS} (h : (ls.set t s')[k]? = some u) : (k = t ∧ u = s') ∨ (k ≠ t ∧ ls[k]? = some u) := by
  rw [List.getElem?_set] at h
  by_cases e : t = k
  · subst e
    rw [if_pos rfl] at h
    split at h
    · exact .inl ⟨rfl, by simpa using h.symm⟩
    · cases h
  · rw [if_neg e] at h; exact .inr ⟨fun e' => e e'.symm, h⟩
theorem set_same {ls : List LS} {t : Nat} {s s' : LS} (h : ls[t]? = some s) : (ls.set t s')[t]? = some s' := by
  rw [List.getElem?_set]; simp [(List.getElem?_eq_some_iff.1 h).1]
theorem set_other {ls : List LS} {t k : Nat} {s' : LS} (h : k ≠ t) : (ls.set t s')[k]? = ls[k]? := by
  rw [List.getElem?_set, if_neg (fun e => h e.symm)]
/-- The word of the lock, as long as somebody is in. -/
theorem Crit.w0 {ws : WS} {s : LS} {N : Int} (h : Crit ws s N) (hc : crit s) (hq : s.q < 20) : ws.w0 = 1 := by
  obtain ⟨D, h1, rfl⟩ := h.mem
  obtain ⟨i, q, r0, r1, r2, r3, r4, buf⟩ := s
  simp only [crit] at h1 hc hq ⊢
  unfold sts at h1
  split at h1
  · obtain ⟨rfl, rfl⟩ : D = [] ∧ buf = [] := by simpa using h1.symm
    rfl
  · split at h1
    · match D, h1 with
      | [], _ => rfl
      | [_], h1 => simp at h1; obtain ⟨rfl, rfl⟩ := h1; rfl
      | _ :: _ :: _, h1 => simp at h1
    · split at h1
      · match D, h1 with
        | [], _ => rfl
        | [_], h1 => simp at h1; obtain ⟨rfl, rfl⟩ := h1; rfl
        | [_, _], h1 => simp at h1; obtain ⟨rfl, rfl, rfl⟩ := h1; rfl
        | _ :: _ :: _ :: _, h1 => simp at h1
      · split at h1
        · match D, h1 with
          | [], _ => rfl
          | [_], h1 => simp at h1; obtain ⟨rfl, rfl⟩ := h1; rfl
          | [_, _], h1 => simp at h1; obtain ⟨rfl, rfl, rfl⟩ := h1; rfl
          | [_, _, _], h1 => simp at h1; obtain ⟨rfl, rfl, rfl, rfl⟩ := h1; rfl
          | _ :: _ :: _ :: _ :: _, h1 => simp at h1
        · match D, h1 with
          | [], _ => rfl
          | [_], h1 => simp at h1; obtain ⟨rfl, rfl⟩ := h1; rfl
          | [_, _], h1 => simp at h1; obtain ⟨rfl, rfl, rfl⟩ := h1; rfl
          | [_, _, _], h1 => simp at h1; obtain ⟨rfl, rfl, rfl, rfl⟩ := h1; rfl
          | [_, _, _, _], h1 => simp at h1; obtain ⟨rfl, rfl, rfl, rfl, rfl⟩ := h1; simp at hc; omega
          | _ :: _ :: _ :: _ :: _ :: _, h1 => simp at h1
theorem Crit.ok {ws : WS} {s : LS} {N : Int} (h : Crit ws s N) : okBuf s.buf ∧ s.buf.length < 8 := by
  obtain ⟨D, h1, _⟩ := h.mem
  have hl : (sts s.q N).length ≤ 4 := by unfold sts; repeat (first | split | simp)
  have ho : okBuf (sts s.q N) := by unfold sts okBuf; repeat (first | split | simp)
  rw [h1] at hl ho
  exact ⟨fun x hx => ho x (by simp [hx]), by simp at hl; omega⟩
end Qs
end
/- The invariant is kept. -/
section
namespace Qs
variable {n t : Nat} {ws ws' : WS} {ls : List LS} {s s' : LS}
theorem tot_keep (ht : ls[t]? = some s) (hc : comp s' = comp s) : tot (ls.set t s') = tot ls := by
  have := tot_set ls t s s' ht; omega
theorem tot_up (ht : ls[t]? = some s) (hc : comp s' = comp s + 1) : tot (ls.set t s') = tot ls + 1 := by
  have := tot_set ls t s s' ht; omega
theorem Inv.locs (I : Inv n ws ls) (hl : Loc n s') : ∀ (k : Nat) u, (ls.set t s')[k]? = some u → Loc n u := by
  intro k u hk
  rcases set_cases hk with ⟨_, rfl⟩ | ⟨_, h⟩
  · exact hl
  · exact I.loc k u h
theorem Inv.quiet (I : Inv n ws ls) (ht : ls[t]? = some s) (h1 : ¬ crit s) (h2 : ¬ crit s') (hc : comp s' = comp s) (hl : Loc n s') : Inv n ws (ls.set t s') := by
  refine ⟨I.locs hl, ?_⟩
  rw [tot_keep ht hc]
  rcases I.how with ⟨hw, hno⟩ | ⟨h, u, hu, hcu, hno, hC⟩
  · refine .inl ⟨hw, fun k u hk => ?_⟩
    rcases set_cases hk with ⟨_, rfl⟩ | ⟨_, e⟩
    · exact h2
    · exact hno k u e
  · have hne : h ≠ t := fun e => by subst e; rw [ht] at hu; cases hu; exact h1 hcu
    refine .inr ⟨h, u, by rw [set_other hne]; exact hu, hcu, fun k v hk hv => ?_, hC⟩
    rcases set_cases hv with ⟨_, rfl⟩ | ⟨_, e⟩
    · exact h2
    · exact hno k v hk e
theorem Inv.enter (I : Inv n ws ls) (ht : ls[t]? = some s) (h1 : ws.w0 = 0) (h2 : crit s') (hc : comp s' = comp s) (hl : Loc n s') (hb : s'.buf = []) (hq : s'.q = 4) (hd : ws' = { ws with w0 := 1 }) : Inv n ws' (ls.set t s') := by
  refine ⟨I.locs hl, ?_⟩
  rw [tot_keep ht hc]
  rcases I.how with ⟨hw, hno⟩ | ⟨h, u, hu, hcu, hno, hC⟩
  · refine .inr ⟨t, s', set_same ht, h2, fun k v hk hv => ?_, ⟨⟨[], by simp [sts, hq, hb], by rw [hd, hw]; rfl⟩, by omega, by omega, by omega, by omega, by omega, by omega, by omega⟩⟩
    rw [set_other hk] at hv
    exact hno k v hv
  · have := hC.w0 hcu (I.loc h u hu).q
    omega
theorem Inv.mine (I : Inv n ws ls) (ht : ls[t]? = some s) (h1 : crit s) : (∀ (k : Nat) u, k ≠ t → ls[k]? = some u → ¬ crit u) ∧ Crit ws s (tot ls : Int) := by
  rcases I.how with ⟨_, hno⟩ | ⟨h, u, hu, hcu, hno, hC⟩
  · exact absurd h1 (hno t s ht)
  · by_cases e : h = t
    · subst e; rw [ht] at hu; cases hu; exact ⟨hno, hC⟩
    · exact absurd h1 (hno t s (fun e' => e e'.symm) ht)
theorem Inv.within (I : Inv n ws ls) (ht : ls[t]? = some s) (h1 : crit s) (h2 : crit s') (hc : comp s' = comp s) (hl : Loc n s') (hC : Crit ws' s' (tot ls : Int)) : Inv n ws' (ls.set t s') := by
  refine ⟨I.locs hl, ?_⟩
  rw [tot_keep ht hc]
  refine .inr ⟨t, s', set_same ht, h2, fun k v hk hv => ?_, hC⟩
  rw [set_other hk] at hv
  exact (I.mine ht h1).1 k v hk hv
theorem Inv.leave (I : Inv n ws ls) (ht : ls[t]? = some s) (h1 : crit s) (h2 : ¬ crit s') (hc : comp s' = comp s + 1) (hl : Loc n s') (hw : ws' = ⟨0, 0, (tot ls : Int) + 1⟩) : Inv n ws' (ls.set t s') := by
  refine ⟨I.locs hl, ?_⟩
  rw [tot_up ht hc]
  refine .inl ⟨by rw [hw]; simp, fun k v hv => ?_⟩
  rcases set_cases hv with ⟨_, rfl⟩ | ⟨hk, e⟩
  · exact h2
  · exact (I.mine ht h1).1 k v hk e
theorem Inv.noFault (I : Inv n ws ls) (ht : ls[t]? = some s) : s.q = 10 → s.r4 ≠ 0 := by
  intro hq
  have := (I.mine ht (.inr (.inl ⟨by omega, by omega⟩))).2.c hq
  omega
theorem Inv.bufs (I : Inv n ws ls) (ht : ls[t]? = some s) : okBuf s.buf ∧ s.buf.length < 8 := by
  by_cases h : crit s
  · exact (I.mine ht h).2.ok
  · rw [(I.loc t s ht).buf h]; exact ⟨(fun x hx => by cases hx), (by simp)⟩
theorem puts_append (w : WS) (a b : List (Nat × Int)) : w.puts (a ++ b) = (w.puts a).puts b := by simp [WS.puts]
/-- What the one who is in reads. -/
theorem lk_puts (w : WS) (l : List (Nat × Int)) (ho : okBuf l) : lk l 1 w.w1 = (w.puts l).w1 ∧ lk l 2 w.w2 = (w.puts l).w2 := by
  induction l generalizing w with
  | nil => exact ⟨rfl, rfl⟩
  | cons x l ih =>
    obtain ⟨k, v⟩ := x
    have hk : k < 3 := ho (k, v) (by simp)
    have := ih (w.put (k, v)) (fun y hy => ho y (by simp [hy]))
    show lk l 1 _ = ((w.put (k, v)).puts l).w1 ∧ lk l 2 _ = ((w.put (k, v)).puts l).w2
    rw [← this.1, ← this.2]
    rcases (show k = 0 ∨ k = 1 ∨ k = 2 from by omega) with rfl | rfl | rfl <;> exact ⟨rfl, rfl⟩
theorem Inv.step (I : Inv n ws ls) (hb : tot ls < 2000000000) (ht : ls[t]? = some s) (hi : s.i < n) : Inv n (lstep ws s).1 (ls.set t (lstep ws s).2) := by
  have L := I.loc t s ht
  by_cases hcr : crit s
  · have hC := (I.mine ht hcr).2
    have hbo := hC.ok.1
    obtain ⟨i, q, r0, r1, r2, r3, r4, buf⟩ := s
    obtain ⟨D, hD, hw⟩ := hC.mem
    have hview : ws.puts buf = (⟨1, 0, (tot ls : Int)⟩ : WS).puts (sts q (tot ls)) := by
      simp only at hD; rw [hD, puts_append, hw]
    have hcase : q = 4 ∨ q = 6 ∨ q = 7 ∨ q = 8 ∨ q = 9 ∨ q = 10 ∨ q = 11 ∨ q = 12 ∨ q = 13 ∨ q = 14 ∨ q = 15 ∨ q = 16 ∨ q = 17 ∨ q = 18 ∨ q = 19 := by
      simp only [crit] at hcr; have := L.q; simp only at this; omega
    rcases hcase with rfl | rfl | rfl | rfl | rfl | rfl | rfl | rfl | rfl | rfl | rfl | rfl | rfl | rfl | rfl
    · have h0 : r0 = 0 := by simpa [crit] using hcr
      subst h0
      exact I.within ht hcr (by simp [lstep, crit]) (by simp [lstep, comp]) ⟨L.i, by simp [lstep], fun e => absurd e (by simp [lstep] at hi ⊢; omega), by simp [lstep], by simp [lstep], by simp [lstep], by simp, fun e => absurd (by simp [lstep, crit]) e⟩
        ⟨⟨D, by simpa [lstep, sts] using hD, hw⟩, by simp [lstep], by simp [lstep], by simp [lstep], by simp [lstep], by simp [lstep], by simp [lstep], by simp [lstep]⟩
    · exact I.within ht hcr (by simp [lstep, crit]) (by simp [lstep, comp]) ⟨L.i, by simp [lstep], fun e => absurd e (by simp [lstep] at hi ⊢; omega), by simp [lstep], by simp [lstep], by simp [lstep], by simp, fun e => absurd (by simp [lstep, crit]) e⟩
        ⟨⟨D, by simpa [lstep, sts] using hD, hw⟩, by simp [lstep], by simp [lstep], by simp [lstep], by simp [lstep], by simp [lstep], by simp [lstep], by simp [lstep]⟩
    · have hv : lk buf 1 ws.w1 = 0 := by rw [(lk_puts ws buf hbo).1, hview]; rfl
      exact I.within ht hcr (by simp [lstep, crit]) (by simp [lstep, comp]) ⟨L.i, by simp [lstep], fun e => absurd e (by simp [lstep] at hi ⊢; omega), by simp [lstep], by simp [lstep], by simp [lstep], by simp, fun e => absurd (by simp [lstep, crit]) e⟩
        ⟨⟨D, by simpa [lstep, sts] using hD, hw⟩, fun _ => hv, by simp [lstep], by simp [lstep], by simp [lstep], by simp [lstep], by simp [lstep], by simp [lstep]⟩
    · exact I.within ht hcr (by simp [lstep, crit]) (by simp [lstep, comp]) ⟨L.i, by simp [lstep], fun e => absurd e (by simp [lstep] at hi ⊢; omega), by simp [lstep], by simp [lstep], by simp [lstep], by simp, fun e => absurd (by simp [lstep, crit]) e⟩
        ⟨⟨D, by simpa [lstep, sts] using hD, hw⟩, fun _ => hC.a (by simp), by simp [lstep], by simp [lstep], by simp [lstep], by simp [lstep], by simp [lstep], by simp [lstep]⟩
    · have h2 : r2 = 0 := hC.a (by simp)
      have h3 : r3 = 1 := hC.b (by simp)
      subst h2; subst h3
      exact I.within ht hcr (by simp [lstep, crit]) (by simp [lstep, comp]) ⟨L.i, by simp [lstep], fun e => absurd e (by simp [lstep] at hi ⊢; omega), by simp [lstep], by simp [lstep], by simp [lstep], by simp, fun e => absurd (by simp [lstep, crit]) e⟩
        ⟨⟨D, by simpa [lstep, sts] using hD, hw⟩, by simp [lstep], fun _ => hC.b (by simp), fun _ => (show sum2 5 0 1 = 1 by decide), by simp [lstep], by simp [lstep], by simp [lstep], by simp [lstep]⟩
    · exact I.within ht hcr (by simp [lstep, crit]) (by simp [lstep, comp]) ⟨L.i, by simp [lstep], fun e => absurd e (by simp [lstep] at hi ⊢; omega), by simp [lstep], by simp [lstep], by simp [lstep], by simp, fun e => absurd (by simp [lstep, crit]) e⟩
        ⟨⟨D, by simpa [lstep, sts] using hD, hw⟩, by simp [lstep], fun _ => hC.b (by simp), by simp [lstep], by simp [lstep], by simp [lstep], by simp [lstep], by simp [lstep]⟩
    · have h3 : r3 = 1 := hC.b (by simp)
      subst h3
      exact I.within ht hcr (by simp [lstep, crit]) (by simp [lstep, comp]) ⟨L.i, by simp [lstep], fun e => absurd e (by simp [lstep] at hi ⊢; omega), by simp [lstep], by simp [lstep], by simp [lstep], by simp, fun e => absurd (by simp [lstep, crit]) e⟩
        ⟨⟨D, by simp [lstep, sts] at hD ⊢; rw [hD.1, hD.2]; rfl, hw⟩, by simp [lstep], by simp [lstep], by simp [lstep], by simp [lstep], by simp [lstep], by simp [lstep], by simp [lstep]⟩
    · have hv : lk buf 2 ws.w2 = (tot ls : Int) := by rw [(lk_puts ws buf hbo).2, hview]; rfl
      exact I.within ht hcr (by simp [lstep, crit]) (by simp [lstep, comp]) ⟨L.i, by simp [lstep], fun e => absurd e (by simp [lstep] at hi ⊢; omega), by simp [lstep], by simp [lstep], by simp [lstep], by simp, fun e => absurd (by simp [lstep, crit]) e⟩
        ⟨⟨D, by simpa [lstep, sts] using hD, hw⟩, by simp [lstep], fun _ => hC.b (by simp), by simp [lstep], fun _ => hv, by simp [lstep], by simp [lstep], by simp [lstep]⟩
    · have h2 : r2 = (tot ls : Int) := hC.d rfl
      have h3 : r3 = 1 := hC.b (by simp)
      subst h2; subst h3
      have hs : sum2 2 (tot ls : Int) 1 = (tot ls : Int) + 1 := by simp only [sum2, W32]; rw [if_neg (by omega)]
      exact I.within ht hcr (by simp [lstep, crit]) (by simp [lstep, comp]) ⟨L.i, by simp [lstep], fun e => absurd e (by simp [lstep] at hi ⊢; omega), by simp [lstep], by simp [lstep], by simp [lstep], by simp, fun e => absurd (by simp [lstep, crit]) e⟩
        ⟨⟨D, by simpa [lstep, sts] using hD, hw⟩, by simp [lstep], fun _ => hC.b (by simp), by simp [lstep], by simp [lstep], fun _ => hs, by simp [lstep], by simp [lstep]⟩
    · have h2 : r2 = (tot ls : Int) + 1 := hC.e rfl
      subst h2
      exact I.within ht hcr (by simp [lstep, crit]) (by simp [lstep, comp]) ⟨L.i, by simp [lstep], fun e => absurd e (by simp [lstep] at hi ⊢; omega), by simp [lstep], by simp [lstep], by simp [lstep], by simp, fun e => absurd (by simp [lstep, crit]) e⟩
        ⟨⟨D, by simp [lstep, sts] at hD ⊢; rw [← List.append_assoc, ← hD]; rfl, hw⟩, by simp [lstep], by simp [lstep], by simp [lstep], by simp [lstep], by simp [lstep], by simp [lstep], by simp [lstep]⟩
    · exact I.within ht hcr (by simp [lstep, crit]) (by simp [lstep, comp]) ⟨L.i, by simp [lstep], fun e => absurd e (by simp [lstep] at hi ⊢; omega), by simp [lstep], by simp [lstep], by simp [lstep], by simp, fun e => absurd (by simp [lstep, crit]) e⟩
        ⟨⟨D, by simpa [lstep, sts] using hD, hw⟩, by simp [lstep], by simp [lstep], by simp [lstep], by simp [lstep], by simp [lstep], by simp [lstep], by simp [lstep]⟩
    · have h4 : r4 = 0 := hC.f rfl
      subst h4
      exact I.within ht hcr (by simp [lstep, crit]) (by simp [lstep, comp]) ⟨L.i, by simp [lstep], fun e => absurd e (by simp [lstep] at hi ⊢; omega), by simp [lstep], by simp [lstep], by simp [lstep], by simp, fun e => absurd (by simp [lstep, crit]) e⟩
        ⟨⟨D, by simp [lstep, sts] at hD ⊢; rw [← List.append_assoc, ← hD]; rfl, hw⟩, by simp [lstep], by simp [lstep], by simp [lstep], by simp [lstep], by simp [lstep], by simp [lstep], by simp [lstep]⟩
    · exact I.within ht hcr (by simp [lstep, crit]) (by simp [lstep, comp]) ⟨L.i, by simp [lstep], fun e => absurd e (by simp [lstep] at hi ⊢; omega), by simp [lstep], by simp [lstep], by simp [lstep], by simp, fun e => absurd (by simp [lstep, crit]) e⟩
        ⟨⟨D, by simpa [lstep, sts] using hD, hw⟩, by simp [lstep], by simp [lstep], by simp [lstep], by simp [lstep], by simp [lstep], by simp [lstep], by simp [lstep]⟩
    · have h0 : r0 = 0 := hC.g rfl
      subst h0
      exact I.within ht hcr (by simp [lstep, crit]) (by simp [lstep, comp]) ⟨L.i, by simp [lstep], fun e => absurd e (by simp [lstep] at hi ⊢; omega), by simp [lstep], by simp [lstep], by simp [lstep], by simp, fun e => absurd (by simp [lstep, crit]) e⟩
        ⟨⟨D, by simp [lstep, sts] at hD ⊢; rw [← List.append_assoc, ← hD]; rfl, hw⟩, by simp [lstep], by simp [lstep], by simp [lstep], by simp [lstep], by simp [lstep], by simp [lstep], by simp [lstep]⟩
    · have hne : buf ≠ [] := by simpa [crit] using hcr
      refine I.leave ht hcr (by simp [lstep, crit]) (by simp [lstep, comp, hne]) ⟨by simp [lstep]; simp at hi; omega, by simp [lstep], by simp [lstep], by simp [lstep], by simp [lstep], by simp [lstep], by simp, by simp [lstep]⟩ ?_
      show ws.puts buf = _
      rw [hview]; rfl
  · have hbf := L.buf hcr
    obtain ⟨i, q, r0, r1, r2, r3, r4, buf⟩ := s
    simp only at hbf; subst hbf
    have hcase : q = 0 ∨ q = 1 ∨ q = 2 ∨ q = 3 ∨ q = 4 ∨ q = 5 ∨ q = 19 := by
      simp only [crit] at hcr; have := L.q; simp only at this; omega
    rcases hcase with rfl | rfl | rfl | rfl | rfl | rfl | rfl
    · exact I.quiet ht hcr (by simp [lstep, crit]) (by simp [lstep, comp]) ⟨L.i, by simp [lstep], fun e => absurd e (by simp [lstep] at hi ⊢; omega), by simp [lstep], by simp [lstep], by simp [lstep], by simp, by simp [lstep]⟩
    · exact I.quiet ht hcr (by simp [lstep, crit]) (by simp [lstep, comp]) ⟨L.i, by simp [lstep], fun e => absurd e (by simp [lstep] at hi ⊢; omega), by simp [lstep], by simp [lstep], by simp [lstep], by simp, by simp [lstep]⟩
    · exact I.quiet ht hcr (by simp [lstep, crit]) (by simp [lstep, comp]) ⟨L.i, by simp [lstep], fun e => absurd e (by simp [lstep] at hi ⊢; omega), by simp [lstep], by simpa [lstep] using L.c2 rfl, by simp [lstep], by simp, by simp [lstep]⟩
    · -- cas
      obtain ⟨e0, e1⟩ := L.c3 rfl
      simp only at e0 e1; subst e0; subst e1
      by_cases hw : ws.w0 = 0
      · exact I.enter ht hw (by simp [lstep, crit, WS.puts, hw]) (by simp [lstep, comp]) ⟨L.i, by simp [lstep], fun e => absurd e (by simp [lstep] at hi ⊢; omega), by simp [lstep], by simp [lstep], by simp [lstep, WS.puts, hw], by simp, by simp [lstep]⟩ rfl rfl (by simp [lstep, WS.puts, hw])
      · have h1 : ws.w0 = 1 := by
          rcases I.how with ⟨e, _⟩ | ⟨h, u, hu, hcu, hno, hC⟩
          · rw [e] at hw; simp at hw
          · exact hC.w0 hcu (I.loc h u hu).q
        have : (lstep ws ⟨i, 3, 0, 1, r2, r3, r4, []⟩).1 = ws := by simp [lstep, WS.puts, h1]
        rw [this]
        exact I.quiet ht hcr (by simp [lstep, crit, WS.puts, h1]) (by simp [lstep, comp]) ⟨L.i, by simp [lstep], fun e => absurd e (by simp [lstep] at hi ⊢; omega), by simp [lstep], by simp [lstep], by simp [lstep, WS.puts, h1], by simp, by simp [lstep]⟩
    · have h0 : r0 ≠ 0 := fun e => hcr (.inl ⟨rfl, e⟩)
      exact I.quiet ht hcr (by simp [lstep, crit, h0]) (by simp [lstep, comp, h0]) ⟨L.i, by simp [lstep, h0], fun e => absurd e (by simp [lstep] at hi ⊢; omega), by simp [lstep, h0], by simp [lstep, h0], by simp [lstep, h0], by simp, by simp [lstep]⟩
    · exact I.quiet ht hcr (by simp [lstep, crit]) (by simp [lstep, comp]) ⟨L.i, by simp [lstep], fun e => absurd e (by simp [lstep] at hi ⊢; omega), by simp [lstep], by simp [lstep], by simp [lstep], by simp, by simp [lstep]⟩
    · exact I.quiet ht hcr (by simp [lstep, crit]) (by simp [lstep, comp]) ⟨by simp [lstep]; simp at hi; omega, by simp [lstep], by simp [lstep], by simp [lstep], by simp [lstep], by simp [lstep], by simp, by simp [lstep]⟩
end Qs
end
/- By any script: threads with a lock are never in at once; at rest each has counted. -/
section
namespace Qs
variable {n t : Nat} {m : M} {ws ws' : WS} {ls : List LS} {s s' : LS}
theorem Rel.drain (h : Rel n m ws ls) (ht : ls[t]? = some s) {x : Nat × Int} {r : List (Nat × Int)} (hb : s.buf = x :: r) (ho : okBuf s.buf) :
    Rel n (m.drain t).1 (ws.put x) (ls.set t { s with buf := r }) := by
  have hx := ho x (by simp [hb])
  unfold M.drain
  rw [h.wts ht]
  simp only [LS.wts, hb, List.map_cons, h.cells, drain1_ws ws x hx]
  refine ⟨rfl, ?_, ?_, by simp [h.faults]⟩
  · show m.T = _
    rw [h.T, ← set_map]
    apply List.ext_getElem?
    intro k
    rw [List.getElem?_set]
    obtain ⟨hl, hv⟩ := List.getElem?_eq_some_iff.1 ht
    by_cases e : t = k
    · subst e; simp [hl, hv, LS.thr]
    · simp [e]
  · show m.waits.set t _ = _
    rw [h.waits, ← set_map]
    rfl
theorem Inv.drain (I : Inv n ws ls) (ht : ls[t]? = some s) {x : Nat × Int} {r : List (Nat × Int)} (hb : s.buf = x :: r) : Inv n (ws.put x) (ls.set t { s with buf := r }) := by
  have L := I.loc t s ht
  have hcr : crit s := Classical.byContradiction fun e => by have := L.buf e; rw [hb] at this; cases this
  have hC := (I.mine ht hcr).2
  obtain ⟨D, hD, hw⟩ := hC.mem
  by_cases hc' : crit { s with buf := r }
  · refine I.within ht hcr hc' ?_ ⟨L.i, L.q, L.fin, L.c2, L.c3, L.c4, L.c5, fun e => absurd hc' e⟩ ⟨⟨D ++ [x], ?_, ?_⟩, hC.a, hC.b, hC.c, hC.d, hC.e, hC.f, hC.g⟩
    · simp only [comp, hb]
      simp only [crit] at hc'
      have : ¬ (s.q = 19 ∧ r = []) := by
        rintro ⟨e1, e2⟩
        subst e2
        rcases hc' with h | h | h
        · omega
        · omega
        · exact h.2 rfl
      simp [this]
    · rw [hD, hb]; simp
    · rw [puts_append, ← hw]; rfl
  · have h19 : s.q = 19 ∧ r = [] := by
      simp only [crit, hb] at hcr hc'
      have := L.q
      constructor
      · omega
      · cases r with
        | nil => rfl
        | cons y r => exfalso; apply hc'; rcases hcr with h | h | h
                      · exact .inl h
                      · exact .inr (.inl h)
                      · exact .inr (.inr ⟨h.1, by simp⟩)
    obtain ⟨h19, rfl⟩ := h19
    refine I.leave ht hcr hc' (by simp [comp, h19, hb]) ⟨L.i, L.q, L.fin, L.c2, L.c3, L.c4, L.c5, fun _ => rfl⟩ ?_
    have : ws.put x = ws.puts s.buf := by rw [hb]; rfl
    rw [this, hw, ← puts_append, ← hD, h19]
    rfl
theorem comp_le (L : Loc n s) : comp s ≤ n := by
  unfold comp
  have h1 := L.i
  split
  · rename_i h
    have : s.i ≠ n := fun e => by have := L.fin e; omega
    omega
  · omega
theorem tot_le : ∀ {ls : List LS}, (∀ (t : Nat) s, ls[t]? = some s → Loc n s) → tot ls ≤ ls.length * n
  | [], _ => by simp [tot]
  | x :: ls, h => by
    have h1 := comp_le (h 0 x rfl)
    have h2 := tot_le (ls := ls) fun t s hs => h (t + 1) s (by simpa using hs)
    simp only [tot, List.map_cons, List.sum_cons, List.length_cons, Nat.add_mul, Nat.one_mul] at h2 ⊢
    omega
theorem Rel.len (h : Rel n m ws ls) : m.T.length = ls.length := by rw [h.T, List.length_map]
theorem Rel.at_end (hn : n ≤ 3) (h : Rel n m ws ls) (ht : ls[t]? = some s) (L : Loc n s) (hi : s.i = n) : m.done t = true := by
  unfold M.done
  rw [h.thr ht]
  simp only [LS.thr, L.fin hi, hi, Nat.add_zero, code_end n hn]
theorem Rel.not_end (hn : n ≤ 3) (h : Rel n m ws ls) (ht : ls[t]? = some s) (L : Loc n s) (hd : m.done t = true) : s.i = n := by
  have hi := L.i
  refine Classical.byContradiction fun e => ?_
  have hc := code_at n hn s.i (by omega) s.q L.q
  unfold M.done at hd
  rw [h.thr ht] at hd
  simp only [LS.thr, hc] at hd
  have hq := L.q
  have hcase : s.q = 0 ∨ s.q = 1 ∨ s.q = 2 ∨ s.q = 3 ∨ s.q = 4 ∨ s.q = 5 ∨ s.q = 6 ∨ s.q = 7 ∨ s.q = 8 ∨ s.q = 9 ∨ s.q = 10 ∨ s.q = 11 ∨ s.q = 12 ∨ s.q = 13 ∨ s.q = 14 ∨ s.q = 15 ∨ s.q = 16 ∨ s.q = 17 ∨ s.q = 18 ∨ s.q = 19 := by omega
  rcases hcase with e | e | e | e | e | e | e | e | e | e | e | e | e | e | e | e | e | e | e | e <;> rw [e] at hd <;> simp [spRound] at hd
/-- What each turn keeps. -/
def Good (th n : Nat) (m : M) : Prop := ∃ ws ls, ls.length = th ∧ Rel n m ws ls ∧ Inv n ws ls
theorem Good.turn {th : Nat} (hth : 1 ≤ th) (hth4 : th ≤ 4) (hn : n ≤ 3) (h : Good th n m) (k : Int) : Good th n (m.turn k).1 := by
  obtain ⟨ws, ls, hl, R, I⟩ := h
  have hT := R.len
  have h1 := Int.emod_lt_of_pos k (show (0 : Int) < 2 * (m.T.length : Int) by omega)
  have h2 := Int.emod_nonneg k (show (2 * (m.T.length : Int)) ≠ 0 by omega)
  have hb : tot ls < 2000000000 := by
    have := tot_le I.loc
    have : ls.length * n ≤ 4 * 3 := Nat.mul_le_mul (by omega) hn
    omega
  unfold M.turn
  simp only []
  split
  · rename_i hk
    obtain ⟨s, hs⟩ : ∃ s, ls[(k % (2 * (m.T.length : Int))).toNat]? = some s := ⟨_, List.getElem?_eq_getElem (by omega)⟩
    by_cases hi : s.i = n
    · rw [M.step_done (R.at_end hn hs (I.loc _ _ hs) hi)]
      exact ⟨ws, ls, hl, R, I⟩
    · have hi' : s.i < n := by have := (I.loc _ _ hs).i; omega
      have hbo := I.bufs hs
      refine ⟨_, _, ?_, (R.step hn hs hi' (I.loc _ _ hs).q hbo.1 hbo.2 (I.noFault hs)).1, I.step hb hs hi'⟩
      simp [hl]
  · rename_i hk
    obtain ⟨s, hs⟩ : ∃ s, ls[(k % (2 * (m.T.length : Int))).toNat - m.T.length]? = some s := ⟨_, List.getElem?_eq_getElem (by omega)⟩
    cases hbf : s.buf with
    | nil =>
      rw [M.drain_nil (by rw [R.wts hs, LS.wts, hbf]; rfl)]
      exact ⟨ws, ls, hl, R, I⟩
    | cons x r =>
      refine ⟨_, _, ?_, R.drain hs hbf (I.bufs hs).1, I.drain hs hbf⟩
      simp [hl]
theorem Good.start (th n : Nat) : Good th n (spStart th n) := by
  refine ⟨⟨0, 0, 0⟩, List.replicate th ⟨0, 0, 0, 0, 0, 0, 0, []⟩, by simp, ⟨rfl, ?_, ?_, rfl⟩, ⟨?_, ?_⟩⟩
  · simp [spStart, LS.thr]
  · simp [spStart, LS.wts]
  · intro t s h
    rw [List.getElem?_replicate] at h
    split at h
    · cases h
      exact ⟨Nat.zero_le _, (by decide), fun _ => rfl, (by simp), (by simp), (by simp), (by simp), (by simp)⟩
    · cases h
  · refine .inl ⟨?_, ?_⟩
    · have : tot (List.replicate th (⟨0, 0, 0, 0, 0, 0, 0, []⟩ : LS)) = 0 := by simp [tot, comp]
      rw [this]; rfl
    · intro t s h
      rw [List.getElem?_replicate] at h
      split at h
      · cases h; simp [crit]
      · cases h
theorem Good.run {th : Nat} (hth : 1 ≤ th) (hth4 : th ≤ 4) (hn : n ≤ 3) (script : List Int) : ∀ {m : M}, Good th n m → Good th n (m.run script).1 := by
  induction script with
  | nil => exact fun h => h
  | cons k r ih => exact fun h => ih (h.turn hth hth4 hn k)
theorem Good.safe {th : Nat} (hn : n ≤ 3) (h : Good th n m) : m.faults = 0 ∧ (m.rest = true → getWord m.cells 0 2 = ((th * n : Nat) : Int)) := by
  obtain ⟨ws, ls, hl, R, I⟩ := h
  refine ⟨R.faults, fun hr => ?_⟩
  have hd := M.rest_iff.1 hr
  rw [R.len] at hd
  have hi : ∀ (t : Nat) s, ls[t]? = some s → s.i = n := fun t s hs => R.not_end hn hs (I.loc t s hs) (hd t (List.getElem?_eq_some_iff.1 hs).1).1
  have hq : ∀ (t : Nat) s, ls[t]? = some s → s.q = 0 := fun t s hs => (I.loc t s hs).fin (hi t s hs)
  have ht : ∀ (ls : List LS), (∀ (t : Nat) s, ls[t]? = some s → s.i = n) → (∀ (t : Nat) s, ls[t]? = some s → s.q = 0) → tot ls = ls.length * n := by
    intro ls
    induction ls with
    | nil => intros; simp [tot]
    | cons x ls ih =>
      intro h1 h2
      have e1 := h1 0 x rfl
      have e2 := h2 0 x rfl
      have := ih (fun t s h => h1 (t + 1) s (by simpa using h)) (fun t s h => h2 (t + 1) s (by simpa using h))
      simp only [tot, List.map_cons, List.sum_cons, List.length_cons, Nat.add_mul, Nat.one_mul, comp] at this ⊢
      rw [e1, e2]; simp; omega
  have htot := ht ls hi hq
  rcases I.how with ⟨hw, _⟩ | ⟨h, s, hs, hc, _⟩
  · rw [R.cells, hw, htot, hl]; rfl
  · have := hq h s hs
    simp only [crit] at hc; omega
/-- Of one to four threads, each of up to three rounds, by any script. -/
theorem spin_safe (th n : Nat) (h1 : 1 ≤ th) (h2 : th ≤ 4) (h4 : n ≤ 3) (script : List Int) :
    ((spStart th n).run script).1.faults = 0 ∧ (((spStart th n).run script).1.rest = true → getWord ((spStart th n).run script).1.cells 0 2 = ((th * n : Nat) : Int)) :=
  Good.safe h4 (Good.run h1 h2 h4 script (Good.start th n))
end Qs
end
