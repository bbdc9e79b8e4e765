/- Texts that belong together, joined. -/

set_option linter.unusedVariables false
set_option linter.unusedSimpArgs false
set_option linter.unusedSectionVars false
/- The plain model of the reference machine of the seed 'quiescent' (chapters 1 to 4): cells, stores that wait, threads, turns. Plain data and functions; no program in sight. -/
section
namespace Qs

/-- An instruction: its op as a number (see opName), its three numbers, its label. -/
structure Instr where
  op : Nat
  A : Int
  B : Int
  C : Int
  to : List UInt8
deriving DecidableEq

structure Cell where
  words : List Int
  times : Int
  here : Bool
deriving DecidableEq

/-- A store that waits: the cell, its gen, the word, the value. -/
structure Wt where
  c : Int
  g : Int
  w : Int
  v : Int
deriving DecidableEq

structure Thr where
  code : List Instr
  regs : List Int
  pc : Nat
deriving DecidableEq

structure M where
  cells : List Cell
  waits : List (List Wt)
  T : List Thr
  marks : List (Int × Int)
  faults : Int
deriving DecidableEq

abbrev W32 : Int := 4294967296

def isWord (n : Int) : Bool := decide (0 ≤ n) && decide (n < W32)

def cellAt (l : List Cell) (c : Int) : Option Cell := if c < 0 then none else l[c.toNat]?

def hereIn (l : List Cell) (c g : Int) : Bool :=
  match cellAt l c with
  | some x => x.here && decide (g = x.times - 1)
  | none => false

/-- The cell and gen of a word that is none of 0. -/
def refOf (n : Int) : Option (Int × Int) :=
  if n = 0 then none else if isWord n then some ((n - 1) % 64, (n - 1) / 64) else none

/-- The word of a ref: 0 where there is none. -/
def wordOf (c g : Int) : Int :=
  if 0 ≤ c ∧ c < 64 ∧ 0 ≤ g ∧ g ≤ 67108864 ∧ isWord (g * 64 + c + 1) then g * 64 + c + 1 else 0

def setWord (l : List Cell) (c : Nat) (w : Nat) (v : Int) : List Cell :=
  l.modify c fun x => { x with words := x.words.set w v }

def getWord (l : List Cell) (c : Nat) (w : Nat) : Int := ((l[c]?).map fun x => x.words.getD w 0).getD 0

/-- What a thread reads: the last store that waits, else memory. -/
def look (ws : List Wt) (c g w : Int) (v : Int) : Int :=
  ws.foldl (fun v x => if x.c = c ∧ x.g = g ∧ x.w = w then x.v else v) v

/-- A drained store: the cells behind it, and whether its cell was gone. -/
def drain1 (l : List Cell) (x : Wt) : List Cell × Bool :=
  if hereIn l x.c x.g then (setWord l x.c.toNat x.w.toNat x.v, false) else (l, true)

def drainAll : List Cell → List Wt → List Cell × Nat
  | l, [] => (l, 0)
  | l, x :: r =>
    let a := drain1 l x
    let b := drainAll a.1 r
    (b.1, b.2 + (if a.2 then 1 else 0))

def M.waitsOf (m : M) (t : Nat) : List Wt := m.waits.getD t []

/-- Fence of a thread. -/
def M.fence (m : M) (t : Nat) : M :=
  let a := drainAll m.cells (m.waitsOf t)
  { m with cells := a.1, waits := m.waits.set t [], faults := m.faults + a.2 }

def M.force (m : M) : Nat → M
  | 0 => m
  | k + 1 => (m.force k).fence k

/-- Drain of a thread: the error's number (0: none; 5: nothing waits), a fault noted. -/
def M.drain (m : M) (t : Nat) : M × Int :=
  match m.waitsOf t with
  | [] => (m, 5)
  | x :: r =>
    let a := drain1 m.cells x
    ({ m with cells := a.1, waits := m.waits.set t r, faults := m.faults + (if a.2 then 1 else 0) }, 0)

/-- Where a label is set first. -/
def labelAt (to : List UInt8) : List Instr → Nat → Option Nat
  | [], _ => none
  | x :: r, i => if x.op = 17 ∧ x.to = to then some i else labelAt to r (i + 1)

def allocAt : List Cell → Nat → Option (Nat × Int)
  | [], _ => none
  | x :: r, i => if x.here then allocAt r (i + 1) else some (i, x.times)

def Thr.reg (h : Thr) (a : Int) : Int := h.regs.getD a.toNat 0

def M.thr (m : M) (t : Nat) : Thr := m.T.getD t ⟨[], [], 0⟩

def M.setReg (m : M) (t : Nat) (a : Int) (v : Int) : M :=
  { m with T := m.T.modify t fun h => { h with regs := h.regs.set a.toNat v } }

def M.setPc (m : M) (t : Nat) (p : Nat) : M :=
  { m with T := m.T.modify t fun h => { h with pc := p } }

/-- The cell that a word names, if it is there. -/
def M.names (m : M) (n : Int) : Option (Int × Int) :=
  match refOf n with
  | some (c, g) => if hereIn m.cells c g then some (c, g) else none
  | none => none

def M.fault (m : M) : M := { m with faults := m.faults + 1 }

def M.done (m : M) (t : Nat) : Bool :=
  match (m.thr t).code[(m.thr t).pc]? with
  | none => true
  | some x => x.op == 20

def M.jump (m : M) (t : Nat) (to : List UInt8) : M := m.setPc t ((labelAt to (m.thr t).code 0).getD 0)

def sum2 (op : Nat) (a b : Int) : Int :=
  match op with
  | 2 => if a + b ≥ W32 then a + b - W32 else a + b
  | 3 => if a - b < 0 then a - b + W32 else a - b
  | 4 => ((a.toNat &&& b.toNat : Nat) : Int)
  | _ => ((a.toNat ^^^ b.toNat : Nat) : Int)

/-- An instruction of a thread whose place is beyond it already. -/
def M.exec (m : M) (t : Nat) (x : Instr) : M :=
  let h := m.thr t
  match x.op with
  | 0 => m.setReg t x.A x.B
  | 1 => m.setReg t x.A (h.reg x.B)
  | 2 => m.setReg t x.A (sum2 2 (h.reg x.B) (h.reg x.C))
  | 3 => m.setReg t x.A (sum2 3 (h.reg x.B) (h.reg x.C))
  | 4 => m.setReg t x.A (sum2 4 (h.reg x.B) (h.reg x.C))
  | 5 => m.setReg t x.A (sum2 5 (h.reg x.B) (h.reg x.C))
  | 6 => match m.names (h.reg x.B) with
    | some (c, g) => m.setReg t x.A (look (m.waitsOf t) c g x.C (getWord m.cells c.toNat x.C.toNat))
    | none => m.fault.setReg t x.A 0
  | 7 => match m.names (h.reg x.A) with
    | some (c, g) =>
      let m1 := if (m.waitsOf t).length ≥ 8 then (m.drain t).1 else m
      { m1 with waits := m1.waits.modify t fun l => l ++ [⟨c, g, x.C, h.reg x.B⟩] }
    | none => m.fault
  | 8 => match m.names (h.reg x.B) with
    | some (c, _) =>
      let m1 := m.fence t
      ({ m1 with cells := setWord m1.cells c.toNat x.C.toNat (h.reg x.A) } : M).setReg t x.A (getWord m1.cells c.toNat x.C.toNat)
    | none => m.fault.setReg t x.A 0
  | 9 => match m.names (h.reg x.A) with
    | some (c, _) =>
      let m1 := m.fence t
      let v := getWord m1.cells c.toNat x.C.toNat
      (if v = h.reg x.B then ({ m1 with cells := setWord m1.cells c.toNat x.C.toNat (h.reg (x.B + 1)) } : M) else m1).setReg t x.B v
    | none => m.fault.setReg t x.B 0
  | 10 => match allocAt m.cells 0 with
    | some (i, n) => ({ m with cells := m.cells.set i ⟨[0, 0, 0, 0], n + 1, true⟩ } : M).setReg t x.A (wordOf i n)
    | none => m.setReg t x.A 0
  | 11 => match m.names (h.reg x.A) with
    | some (c, _) =>
      let m1 := m.fence t
      { m1 with cells := m1.cells.modify c.toNat fun y => { y with here := false } }
    | none => m.fault
  | 12 => m.fence t
  | 13 => m.force m.T.length
  | 14 => if h.reg x.A = 0 then m.jump t x.to else m
  | 15 => if h.reg x.A = h.reg x.B then m.jump t x.to else m
  | 16 => m.jump t x.to
  | 18 => if m.marks.length < 500 then { m with marks := m.marks ++ [((t : Int), h.reg x.A)] } else m
  | 19 => if h.reg x.A = 0 then m.fault else m
  | _ => m

/-- A step of a thread (9: it is done). -/
def M.step (m : M) (t : Nat) : M × Int :=
  match (m.thr t).code[(m.thr t).pc]? with
  | none => (m, 9)
  | some x => if x.op = 20 then (m, 9) else ((m.setPc t ((m.thr t).pc + 1)).exec t x, 0)

/-- A turn by a number. -/
def M.turn (m : M) (n : Int) : M × Int :=
  let k := (n % (2 * (m.T.length : Int))).toNat
  if k < m.T.length then m.step k else m.drain (k - m.T.length)

/-- A run, and how many numbers had no error. -/
def M.run : M → List Int → M × Int
  | m, [] => (m, 0)
  | m, n :: r =>
    let a := m.turn n
    let b := a.1.run r
    (b.1, b.2 + (if a.2 = 0 then 1 else 0))

def M.rest (m : M) : Bool := (List.range m.T.length).all fun t => m.done t && (m.waitsOf t).isEmpty

end Qs
end
/- The code of a lock's customer (statements SpinSafe, SpinEnds), as plain data. -/
section
namespace Qs
/-- Turns by rising numbers from i on. -/
def M.goes (m : M) : Nat → Nat → M
  | 0, _ => m
  | k + 1, i => ((m.turn i).1).goes k (i + 1)
end Qs
end
/- A machine at rest stays as it is, whatever the number. -/
section
namespace Qs
theorem M.step_done {m : M} {t : Nat} (h : m.done t = true) : m.step t = (m, 9) := by
  unfold M.done at h
  unfold M.step
  cases e : (m.thr t).code[(m.thr t).pc]? with
  | none => rfl
  | some x => rw [e] at h; simp only [beq_iff_eq] at h; simp [h]
end Qs
end
/- The plain machine seen by addresses: a word that names a cell names it for good, for a cell that is given anew has another word. -/
section
namespace Qg
open Qs
/-- A store that waits, by its address. -/
structure En where
  a : Int
  w : Nat
  v : Int
deriving DecidableEq
structure A where
  here : Int → Bool
  val : Int → Nat → Int
  buf : Nat → List En
  reg : Nat → Nat → Int
  pc : Nat → Nat
def lk1 (l : List En) (x : Int) (w : Nat) (v : Int) : Int := l.foldl (fun v e => if e.a = x ∧ e.w = w then e.v else v) v
namespace A
def vw (s : A) (t : Nat) (x : Int) (w : Nat) : Int := lk1 (s.buf t) x w (s.val x w)
def put (s : A) (e : En) : A := { s with val := fun x w => if x = e.a ∧ w = e.w then e.v else s.val x w }
def setB (s : A) (t : Nat) (l : List En) : A := { s with buf := fun u => if u = t then l else s.buf u }
def setR (s : A) (t k : Nat) (v : Int) : A := { s with reg := fun u i => if u = t ∧ i = k then v else s.reg u i }
def setP (s : A) (t p : Nat) : A := { s with pc := fun u => if u = t then p else s.pc u }
/-- The first store of a thread drained. -/
def dr (s : A) (t : Nat) : A := match s.buf t with
  | [] => s
  | e :: r => (s.put e).setB t r
def dra : A → Nat → Nat → A
  | s, t, 0 => s
  | s, t, k + 1 => (s.dr t).dra t k
def fn (s : A) (t : Nat) : A := s.dra t (s.buf t).length
def fo (s : A) : Nat → A
  | 0 => s
  | k + 1 => (s.fo k).fn k
def free (s : A) (a : Int) : A := { s with here := fun x => if x = a then false else s.here x, val := fun x w => if x = a then 0 else s.val x w }
def give (s : A) (a : Int) : A := { s with here := fun x => if x = a then true else s.here x, val := fun x w => if x = a then 0 else s.val x w }
end A
def enOf (x : Wt) : En := ⟨x.g * 64 + x.c + 1, x.w.toNat, x.v⟩
/-- The cell and the gen of a word. -/
def celOf (x : Int) : Nat := ((x - 1) % 64).toNat
def absM (m : M) : A :=
  { here := fun x => (m.names x).isSome
    val := fun x w => if (m.names x).isSome then getWord m.cells (celOf x) w else 0
    buf := fun t => (m.waitsOf t).map enOf
    reg := fun t k => (m.thr t).regs.getD k 0
    pc := fun t => (m.thr t).pc }
def WtOk (x : Wt) : Prop := 0 ≤ x.c ∧ x.c < 64 ∧ 0 ≤ x.g ∧ x.g * 64 + x.c + 1 < 4294967296 ∧ 0 ≤ x.w ∧ x.w < 4
/-- A machine whose rows are as long as they should be. -/
structure WM (n : Nat) (code : Nat → List Instr) (m : M) : Prop where
  T : m.T.length = n
  W : m.waits.length = n
  code : ∀ t, t < n → (m.thr t).code = code t
  regs : ∀ t, t < n → (m.thr t).regs.length = 8
  words : ∀ c ∈ m.cells, c.words.length = 4
  cells : m.cells.length ≤ 64
  wts : ∀ t, ∀ x ∈ m.waitsOf t, WtOk x
variable {n t : Nat} {code : Nat → List Instr} {m : M} {c : Nat}
theorem hereIn_iff {l : List Cell} {c g : Int} : hereIn l c g = true ↔ 0 ≤ c ∧ ∃ x, l[c.toNat]? = some x ∧ x.here = true ∧ g = x.times - 1 := by
  unfold hereIn cellAt
  by_cases h : c < 0
  · rw [if_pos h]; simp; omega
  · rw [if_neg h]
    cases e : l[c.toNat]? with
    | none => simp
    | some x => simp; omega
theorem refOf_some {x c g : Int} : refOf x = some (c, g) ↔ 0 < x ∧ x < 4294967296 ∧ c = (x - 1) % 64 ∧ g = (x - 1) / 64 := by
  unfold refOf isWord
  by_cases h : x = 0
  · subst h; simp
  · rw [if_neg h]
    by_cases h2 : 0 ≤ x ∧ x < W32
    · rw [if_pos (by simpa using h2)]
      simp only [W32] at h2
      simp only [Option.some.injEq, Prod.mk.injEq]
      constructor
      · rintro ⟨rfl, rfl⟩; exact ⟨by omega, by omega, rfl, rfl⟩
      · rintro ⟨_, _, rfl, rfl⟩; exact ⟨rfl, rfl⟩
    · rw [if_neg (by simpa using h2)]
      simp only [W32] at h2
      simp; omega
theorem names_some {x c g : Int} : m.names x = some (c, g) ↔ refOf x = some (c, g) ∧ hereIn m.cells c g = true := by
  unfold M.names
  cases e : refOf x with
  | none => simp
  | some p =>
    obtain ⟨c', g'⟩ := p
    simp only
    by_cases h : hereIn m.cells c' g' = true
    · rw [if_pos h]; simp; rintro rfl rfl; exact h
    · rw [if_neg h]; simp; rintro rfl rfl; simpa using h
/-- An address is there: its cell. -/
theorem abs_here {x : Int} : (absM m).here x = true ↔ 0 < x ∧ x < 4294967296 ∧ ∃ y, m.cells[celOf x]? = some y ∧ y.here = true ∧ (x - 1) / 64 = y.times - 1 := by
  show (m.names x).isSome = true ↔ _
  rw [Option.isSome_iff_exists]
  constructor
  · rintro ⟨⟨c, g⟩, h⟩
    obtain ⟨h1, h2⟩ := names_some.1 h
    obtain ⟨h3, h4, rfl, rfl⟩ := refOf_some.1 h1
    obtain ⟨h5, y, h6, h7, h8⟩ := hereIn_iff.1 h2
    exact ⟨h3, h4, y, h6, h7, h8⟩
  · rintro ⟨h1, h2, y, h3, h4, h5⟩
    exact ⟨((x - 1) % 64, (x - 1) / 64), names_some.2 ⟨refOf_some.2 ⟨h1, h2, rfl, rfl⟩, hereIn_iff.2 ⟨by omega, y, h3, h4, h5⟩⟩⟩
theorem abs_names {x : Int} (h : (absM m).here x = true) : m.names x = some ((x - 1) % 64, (x - 1) / 64) := by
  obtain ⟨h1, h2, y, h3, h4, h5⟩ := abs_here.1 h
  exact names_some.2 ⟨refOf_some.2 ⟨h1, h2, rfl, rfl⟩, hereIn_iff.2 ⟨by omega, y, h3, h4, h5⟩⟩
/-- Two addresses of one cell are one. -/
theorem here_inj {x y : Int} (hx : (absM m).here x = true) (hy : (absM m).here y = true) (h : celOf x = celOf y) : x = y := by
  obtain ⟨h1, h2, u, h3, h4, h5⟩ := abs_here.1 hx
  obtain ⟨k1, k2, v, k3, k4, k5⟩ := abs_here.1 hy
  rw [h, k3] at h3
  cases h3
  unfold celOf at h
  omega
theorem abs_val {x : Int} (h : (absM m).here x = true) (w : Nat) : (absM m).val x w = getWord m.cells (celOf x) w := by
  show (if (m.names x).isSome then _ else _) = _
  exact if_pos h
theorem abs_val0 {x : Int} (h : ¬ (absM m).here x = true) (w : Nat) : (absM m).val x w = 0 := by
  show (if (m.names x).isSome then _ else _) = _
  exact if_neg h
theorem A_ext {s r : A} (h1 : ∀ x, s.here x = r.here x) (h2 : ∀ x w, s.val x w = r.val x w) (h3 : ∀ t, s.buf t = r.buf t) (h4 : ∀ t k, s.reg t k = r.reg t k) (h5 : ∀ t, s.pc t = r.pc t) : s = r := by
  obtain ⟨a, b, c, d, e⟩ := s
  obtain ⟨a', b', c', d', e'⟩ := r
  simp only at h1 h2 h3 h4 h5
  obtain rfl : a = a' := funext h1
  obtain rfl : b = b' := funext fun x => funext (h2 x)
  obtain rfl : c = c' := funext h3
  obtain rfl : d = d' := funext fun x => funext (h4 x)
  obtain rfl : e = e' := funext h5
  rfl
theorem en_cel {x : Wt} (h : WtOk x) : celOf (enOf x).a = x.c.toNat ∧ ((enOf x).a - 1) % 64 = x.c ∧ ((enOf x).a - 1) / 64 = x.g ∧ 0 < (enOf x).a ∧ (enOf x).a < 4294967296 := by
  obtain ⟨h1, h2, h3, h4, h5, h6⟩ := h
  unfold enOf celOf
  simp only
  omega
/-- What a thread reads. -/
theorem look_lk (l : List Wt) (hl : ∀ x ∈ l, WtOk x) (x : Int) (hx : 0 < x) (w : Int) (hw : 0 ≤ w) : ∀ v, look l ((x - 1) % 64) ((x - 1) / 64) w v = lk1 (l.map enOf) x w.toNat v := by
  induction l with
  | nil => intro v; rfl
  | cons y l ih =>
    intro v
    show look l _ _ w _ = lk1 (l.map enOf) x w.toNat _
    rw [ih (fun z hz => hl z (by simp [hz]))]
    congr 1
    have hy := hl y (by simp)
    obtain ⟨h1, h2, h3, h4, h5, h6⟩ := hy
    have : (y.c = (x - 1) % 64 ∧ y.g = (x - 1) / 64 ∧ y.w = w) ↔ ((enOf y).a = x ∧ (enOf y).w = w.toNat) := by
      unfold enOf; simp only; omega
    show (if y.c = (x - 1) % 64 ∧ y.g = (x - 1) / 64 ∧ y.w = w then y.v else v) = if (enOf y).a = x ∧ (enOf y).w = w.toNat then (enOf y).v else v
    by_cases e : y.c = (x - 1) % 64 ∧ y.g = (x - 1) / 64 ∧ y.w = w
    · rw [if_pos e, if_pos (this.1 e)]; rfl
    · rw [if_neg e, if_neg (fun h => e (this.2 h))]
theorem getWord_set {l : List Cell} {c k w u : Nat} {v : Int} (hl : ∀ c ∈ l, c.words.length = 4) (hc : c < l.length) (hw : w < 4) :
    getWord (setWord l c w v) k u = if k = c ∧ u = w then v else getWord l k u := by
  unfold getWord setWord
  rw [List.getElem?_modify]
  by_cases e : c = k
  · subst e
    obtain ⟨y, hy⟩ : ∃ y, l[c]? = some y := ⟨_, List.getElem?_eq_getElem hc⟩
    have h4 := hl y (List.mem_of_getElem? hy)
    rw [hy]
    simp only [if_true, Option.map_some, Option.getD_some, true_and]
    by_cases e2 : u = w
    · subst e2; rw [if_pos rfl]; simp [List.getD, h4, hw]
    · rw [if_neg e2]; simp [List.getD, List.getElem?_set_ne (fun h => e2 h.symm)]
  · rw [if_neg (fun h => e h.1.symm)]
    simp [e]
theorem here_set {l : List Cell} {c w : Nat} {v : Int} (k g : Int) : hereIn (setWord l c w v) k g = hereIn l k g := by
  unfold hereIn cellAt setWord
  by_cases h : k < 0
  · rw [if_pos h, if_pos h]
  · rw [if_neg h, if_neg h, List.getElem?_modify]
    cases e : l[k.toNat]? with
    | none => by_cases e2 : c = k.toNat <;> simp [e2]
    | some y => by_cases e2 : c = k.toNat <;> simp [e2]
theorem names_cells {m m' : M} (h : ∀ k g, hereIn m'.cells k g = hereIn m.cells k g) (x : Int) : m'.names x = m.names x := by
  unfold M.names
  split
  · rw [h]
  · rfl
/-- A word written. -/
theorem abs_setWord (hW : ∀ c ∈ m.cells, c.words.length = 4) {x : Int} (h : (absM m).here x = true) {w : Nat} (hw : w < 4) (v : Int) (W' : List (List Wt)) (T' : List Thr) (mk : List (Int × Int)) (ft : Int) :
    absM ⟨setWord m.cells (celOf x) w v, W', T', mk, ft⟩ = (absM ⟨m.cells, W', T', mk, ft⟩).put ⟨x, w, v⟩ := by
  obtain ⟨y1, y2, y, y3, y4, y5⟩ := abs_here.1 h
  have hn : ∀ z, M.names ⟨setWord m.cells (celOf x) w v, W', T', mk, ft⟩ z = M.names ⟨m.cells, W', T', mk, ft⟩ z := fun z => names_cells (m := ⟨m.cells, W', T', mk, ft⟩) (fun k g => here_set k g) z
  have hn2 : ∀ z, M.names ⟨m.cells, W', T', mk, ft⟩ z = m.names z := fun z => names_cells (m := m) (fun k g => rfl) z
  refine A_ext (fun z => ?_) (fun z u => ?_) (fun _ => rfl) (fun _ _ => rfl) (fun _ => rfl)
  · show (M.names _ z).isSome = (M.names _ z).isSome
    rw [hn]
  · show (if (M.names _ z).isSome then getWord _ _ _ else 0) = (if z = x ∧ u = w then v else if (M.names _ z).isSome then getWord _ _ _ else 0)
    rw [hn, hn2]
    simp only []
    rw [getWord_set hW (List.getElem?_eq_some_iff.1 y3).1 hw]
    by_cases e : z = x
    · subst e
      have : (m.names z).isSome = true := h
      rw [if_pos this]
      by_cases e2 : u = w
      · rw [if_pos ⟨rfl, e2⟩, if_pos ⟨rfl, e2⟩]
      · rw [if_neg (fun h => e2 h.2), if_neg (fun h => e2 h.2), if_pos this]
    · rw [if_neg (c := z = x ∧ u = w) (fun h => e h.1)]
      by_cases hz : (m.names z).isSome = true
      · rw [if_pos hz, if_pos hz, if_neg (fun h' => e (here_inj hz h h'.1))]
      · rw [if_neg hz, if_neg hz]
end Qg
end
/- Steps of the plain machine, seen by addresses. -/
section
namespace Qg
open Qs
namespace A
/-- What an instruction does behind its fence; tg: where its label is set. -/
def ex (s : A) (t : Nat) (x : Instr) (tg : Nat) : A :=
  match x.op with
  | 0 => s.setR t x.A.toNat x.B
  | 1 => s.setR t x.A.toNat (s.reg t x.B.toNat)
  | 2 => s.setR t x.A.toNat (sum2 2 (s.reg t x.B.toNat) (s.reg t x.C.toNat))
  | 3 => s.setR t x.A.toNat (sum2 3 (s.reg t x.B.toNat) (s.reg t x.C.toNat))
  | 4 => s.setR t x.A.toNat (sum2 4 (s.reg t x.B.toNat) (s.reg t x.C.toNat))
  | 5 => s.setR t x.A.toNat (sum2 5 (s.reg t x.B.toNat) (s.reg t x.C.toNat))
  | 6 => s.setR t x.A.toNat (s.vw t (s.reg t x.B.toNat) x.C.toNat)
  | 7 => s.setB t (s.buf t ++ [⟨s.reg t x.A.toNat, x.C.toNat, s.reg t x.B.toNat⟩])
  | 8 => (s.put ⟨s.reg t x.B.toNat, x.C.toNat, s.reg t x.A.toNat⟩).setR t x.A.toNat (s.val (s.reg t x.B.toNat) x.C.toNat)
  | 9 => (if s.val (s.reg t x.A.toNat) x.C.toNat = s.reg t x.B.toNat then s.put ⟨s.reg t x.A.toNat, x.C.toNat, s.reg t (x.B + 1).toNat⟩ else s).setR t x.B.toNat (s.val (s.reg t x.A.toNat) x.C.toNat)
  | 11 => s.free (s.reg t x.A.toNat)
  | 14 => if s.reg t x.A.toNat = 0 then s.setP t tg else s
  | 15 => if s.reg t x.A.toNat = s.reg t x.B.toNat then s.setP t tg else s
  | 16 => s.setP t tg
  | _ => s
/-- What is drained ahead of an instruction. -/
def pre (s : A) (n t : Nat) (x : Instr) : A :=
  match x.op with
  | 7 => if (s.buf t).length ≥ 8 then s.dr t else s
  | 8 => s.fn t
  | 9 => s.fn t
  | 11 => s.fn t
  | 12 => s.fn t
  | 13 => s.fo n
  | _ => s
def Req (s : A) (t : Nat) (x : Instr) : Prop :=
  match x.op with
  | 6 => s.here (s.reg t x.B.toNat) = true
  | 7 => s.here (s.reg t x.A.toNat) = true
  | 8 => s.here (s.reg t x.B.toNat) = true
  | 9 => s.here (s.reg t x.A.toNat) = true
  | 10 => False
  | 11 => s.here (s.reg t x.A.toNat) = true
  | 18 => False
  | 19 => s.reg t x.A.toNat ≠ 0
  | 20 => False
  | _ => True
theorem dr_here (s : A) (t : Nat) : (s.dr t).here = s.here := by unfold dr; split <;> rfl
theorem dr_reg (s : A) (t : Nat) : (s.dr t).reg = s.reg := by unfold dr; split <;> rfl
theorem dr_pc (s : A) (t : Nat) : (s.dr t).pc = s.pc := by unfold dr; split <;> rfl
theorem dr_buf (s : A) (t u : Nat) : (s.dr t).buf u = if u = t then (s.buf t).tail else s.buf u := by
  unfold dr
  split
  · rename_i h; by_cases e : u = t
    · rw [if_pos e, e, h]; rfl
    · rw [if_neg e]
  · rename_i a r h
    show (if u = t then r else s.buf u) = _
    rw [h]; rfl
theorem dr_mem {s : A} {t u : Nat} {e : En} (h : e ∈ (s.dr t).buf u) : e ∈ s.buf u := by
  rw [dr_buf] at h
  split at h
  · rename_i e2; rw [e2]; exact List.mem_of_mem_tail h
  · exact h
theorem dra_buf : ∀ (k : Nat) (s : A) (t u : Nat), (s.dra t k).buf u = if u = t then (s.buf t).drop k else s.buf u
  | 0, s, t, u => by unfold dra; split; (rename_i h; rw [h, List.drop_zero]); rfl
  | k + 1, s, t, u => by
    unfold dra
    rw [dra_buf k, dr_buf, dr_buf]
    by_cases e : u = t
    · simp [e]
    · simp [e]
theorem dra_here : ∀ (k : Nat) (s : A) (t : Nat), (s.dra t k).here = s.here
  | 0, s, t => rfl
  | k + 1, s, t => by unfold dra; rw [dra_here k, dr_here]
theorem dra_reg : ∀ (k : Nat) (s : A) (t : Nat), (s.dra t k).reg = s.reg
  | 0, s, t => rfl
  | k + 1, s, t => by unfold dra; rw [dra_reg k, dr_reg]
theorem fn_buf (s : A) (t u : Nat) : (s.fn t).buf u = if u = t then [] else s.buf u := by
  unfold fn
  rw [dra_buf]
  simp
theorem fn_here (s : A) (t : Nat) : (s.fn t).here = s.here := dra_here _ _ _
theorem fn_reg (s : A) (t : Nat) : (s.fn t).reg = s.reg := dra_reg _ _ _
theorem fo_here (s : A) : ∀ k, (s.fo k).here = s.here
  | 0 => rfl
  | k + 1 => by unfold fo; rw [fn_here, fo_here s k]
theorem fo_buf (s : A) : ∀ k u, (s.fo k).buf u = if u < k then [] else s.buf u
  | 0, u => by simp [fo]
  | k + 1, u => by
    unfold fo
    rw [fn_buf, fo_buf s k]
    by_cases e : u = k
    · simp [e]
    · by_cases e2 : u < k
      · simp [e, e2, show u < k + 1 by omega]
      · simp [e, e2, show ¬ u < k + 1 by omega]
/-- What each drain keeps, fences keep. -/
theorem dra_keep {P : A → Prop} (h : ∀ s t, P s → P (s.dr t)) : ∀ (k : Nat) (s : A) (t : Nat), P s → P (s.dra t k)
  | 0, s, t, hp => hp
  | k + 1, s, t, hp => dra_keep h k _ t (h s t hp)
theorem fn_keep {P : A → Prop} (h : ∀ s t, P s → P (s.dr t)) (s : A) (t : Nat) (hp : P s) : P (s.fn t) := dra_keep h _ s t hp
theorem fo_keep {P : A → Prop} (h : ∀ s t, P s → P (s.dr t)) (s : A) (hp : P s) : ∀ k, P (s.fo k)
  | 0 => hp
  | k + 1 => fn_keep h _ k (fo_keep h s hp k)
theorem pre_keep {P : A → Prop} (h : ∀ s t, P s → P (s.dr t)) (s : A) (n t : Nat) (x : Instr) (hp : P s) : P (s.pre n t x) := by
  unfold pre
  split
  · split
    · exact h s t hp
    · exact hp
  · exact fn_keep h s t hp
  · exact fn_keep h s t hp
  · exact fn_keep h s t hp
  · exact fn_keep h s t hp
  · exact fo_keep h s hp n
  · exact hp
end A
variable {n t : Nat} {code : Nat → List Instr} {m : M} {c : Nat}
theorem WM.cong {m' : M} (W : WM n code m) (h1 : m'.T = m.T) (h2 : m'.waits.length = n) (h3 : ∀ c ∈ m'.cells, c.words.length = 4) (h4 : m'.cells.length = m.cells.length) (h5 : ∀ t, ∀ x ∈ m'.waitsOf t, WtOk x) : WM n code m' :=
  ⟨by rw [h1]; exact W.T, h2, fun t ht => by have := W.code t ht; unfold M.thr at this ⊢; rw [h1]; exact this, fun t ht => by have := W.regs t ht; unfold M.thr at this ⊢; rw [h1]; exact this, h3, by rw [h4]; exact W.cells, h5⟩
theorem set_words {l : List Cell} (hl : ∀ c ∈ l, c.words.length = 4) (k w : Nat) (v : Int) : ∀ c ∈ setWord l k w v, c.words.length = 4 := by
  intro c hc
  obtain ⟨i, hi⟩ := List.getElem?_of_mem hc
  unfold setWord at hi
  rw [List.getElem?_modify] at hi
  cases e : l[i]? with
  | none => rw [e] at hi; simp at hi
  | some y =>
    have hy := hl y (List.mem_of_getElem? e)
    rw [e] at hi
    by_cases e2 : k = i
    · subst e2; simp at hi; subst hi; simpa using hy
    · simp [e2] at hi; subst hi; exact hy
theorem waitsOf_set (m : M) (t u : Nat) (l : List Wt) (ht : t < m.waits.length) : M.waitsOf { m with waits := m.waits.set t l } u = if u = t then l else m.waitsOf u := by
  unfold M.waitsOf
  simp only [List.getD, List.getElem?_set]
  by_cases e : t = u
  · subst e; simp [ht]
  · rw [if_neg e, if_neg (fun h => e h.symm)]
theorem abs_drain (W : WM n code m) (ht : t < n) (hb : ∀ e ∈ (absM m).buf t, (absM m).here e.a = true) :
    absM (m.drain t).1 = (absM m).dr t ∧ (m.drain t).1.faults = m.faults ∧ WM n code (m.drain t).1 ∧ (m.drain t).1.T = m.T := by
  unfold M.drain
  cases e : m.waitsOf t with
  | nil =>
    refine ⟨?_, rfl, W, rfl⟩
    unfold A.dr
    rw [show (absM m).buf t = [] from by show (m.waitsOf t).map enOf = []; rw [e]; rfl]
  | cons x r =>
    have hok := W.wts t x (by rw [e]; simp)
    have hbuf : (absM m).buf t = enOf x :: r.map enOf := by show (m.waitsOf t).map enOf = _; rw [e]; rfl
    have hh := hb (enOf x) (by rw [hbuf]; simp)
    obtain ⟨c1, c2, c3, c4, c5⟩ := en_cel hok
    obtain ⟨_, _, y, y3, y4, y5⟩ := abs_here.1 hh
    have hin : hereIn m.cells x.c x.g = true := hereIn_iff.2 ⟨hok.1, y, by rw [← c1]; exact y3, y4, by rw [← c3]; exact y5⟩
    have hd : drain1 m.cells x = (setWord m.cells x.c.toNat x.w.toNat x.v, false) := by unfold drain1; rw [if_pos hin]
    simp only [hd]
    have hwl : t < m.waits.length := by rw [W.W]; exact ht
    have hw3 : x.w.toNat < 4 := by have := hok.2.2.2.2; omega
    refine ⟨?_, by simp, ?_, trivial⟩
    · have := abs_setWord (m := m) W.words hh (w := x.w.toNat) hw3 x.v (m.waits.set t r) m.T m.marks (m.faults + if false = true then 1 else 0)
      rw [c1] at this
      rw [this]
      unfold A.dr
      rw [hbuf]
      refine A_ext (fun _ => rfl) (fun _ _ => rfl) (fun u => ?_) (fun _ _ => rfl) (fun _ => rfl)
      show (M.waitsOf { m with waits := m.waits.set t r } u).map enOf = if u = t then r.map enOf else (m.waitsOf u).map enOf
      rw [waitsOf_set m t u r hwl]
      by_cases e2 : u = t
      · rw [if_pos e2, if_pos e2]
      · rw [if_neg e2, if_neg e2]
    · refine W.cong rfl (by simp [W.W]) (set_words W.words _ _ _) (by simp [setWord]) (fun u z hz => ?_)
      have hz' : z ∈ M.waitsOf { m with waits := m.waits.set t r } u := hz
      rw [waitsOf_set m t u r hwl] at hz'
      split at hz'
      · exact W.wts t z (by rw [e]; simp [hz'])
      · exact W.wts u z hz'
theorem fence_nil (m : M) (t : Nat) (h : m.waitsOf t = []) : m.fence t = m := by
  unfold M.fence
  rw [h]
  have : m.waits.set t [] = m.waits := by
    apply List.ext_getElem?
    intro i
    rw [List.getElem?_set]
    by_cases e : t = i
    · subst e
      unfold M.waitsOf at h
      by_cases hl : t < m.waits.length
      · simp only [if_true, hl]
        rw [List.getD, List.getElem?_eq_getElem hl] at h
        simp at h
        rw [List.getElem?_eq_getElem hl, h]
      · simp [hl]
    · rw [if_neg e]
  simp only [drainAll, this]
  simp
theorem fence_cons (m : M) (t : Nat) (x : Wt) (r : List Wt) (h : m.waitsOf t = x :: r) (ht : t < m.waits.length) : m.fence t = (m.drain t).1.fence t := by
  unfold M.fence M.drain
  rw [h]
  simp only [drainAll]
  have : M.waitsOf ⟨(drain1 m.cells x).1, m.waits.set t r, m.T, m.marks, m.faults + if (drain1 m.cells x).2 = true then 1 else 0⟩ t = r := by
    have := waitsOf_set m t t r ht
    rw [if_pos rfl] at this
    exact this
  rw [this]
  simp only [List.set_set]
  congr 1
  cases (drain1 m.cells x).2 <;> simp <;> omega
theorem abs_fence : ∀ (k : Nat) {m : M}, (m.waitsOf t).length = k → WM n code m → t < n → (∀ e ∈ (absM m).buf t, (absM m).here e.a = true) →
    absM (m.fence t) = (absM m).fn t ∧ (m.fence t).faults = m.faults ∧ WM n code (m.fence t) ∧ (m.fence t).T = m.T
  | 0, m, hk, W, ht, hb => by
    have h0 : m.waitsOf t = [] := List.length_eq_zero_iff.1 hk
    rw [fence_nil m t h0]
    refine ⟨?_, rfl, W, rfl⟩
    unfold A.fn
    rw [show (absM m).buf t = [] from by show (m.waitsOf t).map enOf = []; rw [h0]; rfl]
    rfl
  | k + 1, m, hk, W, ht, hb => by
    obtain ⟨x, r, hx⟩ : ∃ x r, m.waitsOf t = x :: r := by
      cases e : m.waitsOf t with
      | nil => rw [e] at hk; simp at hk
      | cons x r => exact ⟨x, r, rfl⟩
    have hwl : t < m.waits.length := by rw [W.W]; exact ht
    obtain ⟨h1, h2, h3, h4⟩ := abs_drain W ht hb
    have hw : (m.drain t).1.waitsOf t = r := by
      unfold M.drain
      rw [hx]
      have := waitsOf_set m t t r hwl
      rw [if_pos rfl] at this
      exact this
    have hlr : r.length = k := by rw [hx] at hk; simpa using hk
    obtain ⟨g1, g2, g3, g4⟩ := abs_fence k (m := (m.drain t).1) (by rw [hw, hlr]) h3 ht (fun e he => by
      rw [h1] at he ⊢
      rw [A.dr_here]
      exact hb e (A.dr_mem he))
    rw [fence_cons m t x r hx hwl]
    refine ⟨?_, by rw [g2, h2], g3, by rw [g4, h4]⟩
    rw [g1, h1]
    have hl : ((absM m).buf t).length = k + 1 := by show ((m.waitsOf t).map enOf).length = _; rw [List.length_map, hk]
    unfold A.fn
    rw [hl, A.dr_buf, if_pos rfl, List.length_tail, hl]
    rfl
theorem abs_force : ∀ (k : Nat), k ≤ n → WM n code m → (∀ u, ∀ e ∈ (absM m).buf u, (absM m).here e.a = true) →
    absM (m.force k) = (absM m).fo k ∧ (m.force k).faults = m.faults ∧ WM n code (m.force k) ∧ (m.force k).T = m.T
  | 0, _, W, _ => ⟨rfl, rfl, W, rfl⟩
  | k + 1, hk, W, hb => by
    obtain ⟨h1, h2, h3, h4⟩ := abs_force k (by omega) W hb
    obtain ⟨g1, g2, g3, g4⟩ := abs_fence (t := k) _ rfl h3 (by omega) (fun e he => by
      rw [h1] at he ⊢
      rw [A.fo_here]
      rw [A.fo_buf] at he
      split at he
      · simp at he
      · exact hb k e he)
    exact ⟨by show absM ((m.force k).fence k) = _; rw [g1, h1]; rfl, by show ((m.force k).fence k).faults = _; rw [g2, h2], g3, by show ((m.force k).fence k).T = _; rw [g4, h4]⟩
end Qg
end
/- An instruction of the plain machine, seen by addresses. -/
section
namespace Qg
open Qs
variable {n t : Nat} {code : Nat → List Instr} {m : M} {c : Nat}
theorem thr_mod (m : M) (f : Thr → Thr) (ht : t < m.T.length) (u : Nat) : M.thr { m with T := m.T.modify t f } u = if u = t then f (m.thr t) else m.thr u := by
  unfold M.thr
  simp only [List.getD, List.getElem?_modify]
  by_cases e : u = t
  · subst e
    simp [List.getElem?_eq_getElem ht]
  · have e' : ¬ t = u := fun h => e h.symm
    simp [e, e']
theorem abs_setReg (W : WM n code m) (ht : t < n) {a : Int} (ha : a.toNat < 8) (v : Int) :
    absM (m.setReg t a v) = (absM m).setR t a.toNat v ∧ (m.setReg t a v).faults = m.faults ∧ WM n code (m.setReg t a v) := by
  have hl : t < m.T.length := by rw [W.T]; exact ht
  have h8 := W.regs t ht
  have hthr := fun u => thr_mod m (fun h => { h with regs := h.regs.set a.toNat v }) hl u
  refine ⟨A_ext (fun _ => rfl) (fun _ _ => rfl) (fun _ => rfl) (fun u k => ?_) (fun u => ?_), rfl, ⟨by simp [M.setReg, W.T], W.W, fun u hu => ?_, fun u hu => ?_, W.words, W.cells, W.wts⟩⟩
  · show (M.thr { m with T := m.T.modify t _ } u).regs.getD k 0 = if u = t ∧ k = a.toNat then v else (m.thr u).regs.getD k 0
    rw [hthr]
    by_cases e : u = t
    · subst e
      rw [if_pos rfl]
      simp only [List.getD, List.getElem?_set, true_and]
      by_cases e2 : k = a.toNat
      · subst e2; rw [if_pos rfl, if_pos rfl, if_pos (by omega)]; rfl
      · rw [if_neg e2, if_neg (fun h => e2 h.symm)]
    · rw [if_neg e, if_neg (fun h => e h.1)]
  · show (M.thr { m with T := m.T.modify t _ } u).pc = (m.thr u).pc
    rw [hthr]
    by_cases e : u = t
    · subst e; rw [if_pos rfl]
    · rw [if_neg e]
  · show (M.thr { m with T := m.T.modify t _ } u).code = _
    rw [hthr]
    by_cases e : u = t
    · subst e; rw [if_pos rfl]; exact W.code u hu
    · rw [if_neg e]; exact W.code u hu
  · show (M.thr { m with T := m.T.modify t _ } u).regs.length = _
    rw [hthr]
    by_cases e : u = t
    · subst e; rw [if_pos rfl]; simp [h8]
    · rw [if_neg e]; exact W.regs u hu
theorem abs_setPc (W : WM n code m) (ht : t < n) (p : Nat) :
    absM (m.setPc t p) = (absM m).setP t p ∧ (m.setPc t p).faults = m.faults ∧ WM n code (m.setPc t p) := by
  have hl : t < m.T.length := by rw [W.T]; exact ht
  have hthr := fun u => thr_mod m (fun h => { h with pc := p }) hl u
  refine ⟨A_ext (fun _ => rfl) (fun _ _ => rfl) (fun _ => rfl) (fun u k => ?_) (fun u => ?_), rfl, ⟨by simp [M.setPc, W.T], W.W, fun u hu => ?_, fun u hu => ?_, W.words, W.cells, W.wts⟩⟩
  · show (M.thr { m with T := m.T.modify t _ } u).regs.getD k 0 = (m.thr u).regs.getD k 0
    rw [hthr]
    by_cases e : u = t
    · subst e; rw [if_pos rfl]
    · rw [if_neg e]
  · show (M.thr { m with T := m.T.modify t _ } u).pc = if u = t then p else (m.thr u).pc
    rw [hthr]
    by_cases e : u = t
    · subst e; rw [if_pos rfl, if_pos rfl]
    · rw [if_neg e, if_neg e]
  · show (M.thr { m with T := m.T.modify t _ } u).code = _
    rw [hthr]
    by_cases e : u = t
    · subst e; rw [if_pos rfl]; exact W.code u hu
    · rw [if_neg e]; exact W.code u hu
  · show (M.thr { m with T := m.T.modify t _ } u).regs.length = _
    rw [hthr]
    by_cases e : u = t
    · subst e; rw [if_pos rfl]; exact W.regs u hu
    · rw [if_neg e]; exact W.regs u hu
/-- A word written where a cell is. -/
theorem abs_write (W : WM n code m) {x : Int} (h : (absM m).here x = true) {w : Nat} (hw : w < 4) (v : Int) :
    absM { m with cells := setWord m.cells (celOf x) w v } = (absM m).put ⟨x, w, v⟩ ∧ WM n code { m with cells := setWord m.cells (celOf x) w v } :=
  ⟨abs_setWord W.words h hw v m.waits m.T m.marks m.faults, W.cong rfl W.W (set_words W.words _ _ _) (by simp [setWord]) W.wts⟩
theorem waitsOf_mod (m : M) (t u : Nat) (f : List Wt → List Wt) (ht : t < m.waits.length) : M.waitsOf { m with waits := m.waits.modify t f } u = if u = t then f (m.waitsOf t) else m.waitsOf u := by
  unfold M.waitsOf
  simp only [List.getD, List.getElem?_modify]
  by_cases e : u = t
  · subst e; simp [List.getElem?_eq_getElem ht]
  · have e' : ¬ t = u := fun h => e h.symm
    simp [e, e']
theorem wt_of_here {x : Int} (h : (absM m).here x = true) {C v : Int} (hC : 0 ≤ C ∧ C < 4) : WtOk ⟨(x - 1) % 64, (x - 1) / 64, C, v⟩ ∧ enOf ⟨(x - 1) % 64, (x - 1) / 64, C, v⟩ = ⟨x, C.toNat, v⟩ := by
  obtain ⟨h1, h2, _⟩ := abs_here.1 h
  refine ⟨⟨?_, ?_, ?_, ?_, ?_, ?_⟩, ?_⟩
  all_goals try (simp only; omega)
  unfold enOf
  simp only [En.mk.injEq, and_self, and_true]
  omega
theorem abs_push (W : WM n code m) (ht : t < n) {x C : Int} (h : (absM m).here x = true) (hC : 0 ≤ C ∧ C < 4) (v : Int) :
    absM { m with waits := m.waits.modify t fun l => l ++ [⟨(x - 1) % 64, (x - 1) / 64, C, v⟩] } = (absM m).setB t ((absM m).buf t ++ [⟨x, C.toNat, v⟩]) ∧ WM n code { m with waits := m.waits.modify t fun l => l ++ [⟨(x - 1) % 64, (x - 1) / 64, C, v⟩] } := by
  obtain ⟨h1, h2⟩ := wt_of_here h (v := v) hC
  have hl : t < m.waits.length := by rw [W.W]; exact ht
  have hw := fun u => waitsOf_mod m t u (fun l => l ++ [⟨(x - 1) % 64, (x - 1) / 64, C, v⟩]) hl
  refine ⟨A_ext (fun _ => rfl) (fun _ _ => rfl) (fun u => ?_) (fun _ _ => rfl) (fun _ => rfl), W.cong rfl (by simp [W.W]) W.words rfl (fun u z hz => ?_)⟩
  · show (M.waitsOf _ u).map enOf = if u = t then (m.waitsOf t).map enOf ++ [⟨x, C.toNat, v⟩] else (m.waitsOf u).map enOf
    rw [hw]
    by_cases e : u = t
    · rw [if_pos e, if_pos e, List.map_append, List.map_singleton, h2]
    · rw [if_neg e, if_neg e]
  · rw [hw] at hz
    split at hz
    · rcases List.mem_append.1 hz with h | h
      · exact W.wts t z h
      · rw [List.mem_singleton.1 h]; exact h1
    · exact W.wts u z hz
theorem abs_free (W : WM n code m) {x : Int} (h : (absM m).here x = true) :
    absM { m with cells := m.cells.modify (celOf x) fun y => { y with here := false } } = (absM m).free x ∧ WM n code { m with cells := m.cells.modify (celOf x) fun y => { y with here := false } } := by
  obtain ⟨x1, x2, y, x3, x4, x5⟩ := abs_here.1 h
  have hn : ∀ z, ((absM { m with cells := m.cells.modify (celOf x) fun y => { y with here := false } }).here z = true) ↔ ((absM m).here z = true ∧ z ≠ x) := fun z => by
    rw [abs_here, abs_here]
    simp only [List.getElem?_modify]
    constructor
    · rintro ⟨a, b, u, c, d, e⟩
      by_cases e2 : celOf x = celOf z
      · rw [← e2, x3] at c; simp [e2] at c; subst c; simp at d
      · cases e3 : m.cells[celOf z]? with
        | none => rw [e3] at c; simp at c
        | some q => rw [e3] at c; simp [e2] at c; subst c; exact ⟨⟨a, b, q, rfl, d, e⟩, fun h => e2 (by rw [h])⟩
    · rintro ⟨⟨a, b, u, c, d, e⟩, hne⟩
      refine ⟨a, b, u, ?_, d, e⟩
      have : celOf x ≠ celOf z := fun h' => hne (here_inj (abs_here.2 ⟨a, b, u, c, d, e⟩) h h'.symm)
      rw [c]; simp [this]
  refine ⟨A_ext (fun z => ?_) (fun z u => ?_) (fun _ => rfl) (fun _ _ => rfl) (fun _ => rfl), W.cong rfl W.W (fun c hc => ?_) (by simp) W.wts⟩
  · have := hn z
    show (absM _).here z = if z = x then false else (absM m).here z
    by_cases e : z = x
    · subst e
      rw [if_pos rfl]
      cases hb : (absM { m with cells := m.cells.modify (celOf z) fun y => { y with here := false } }).here z with
      | false => rfl
      | true => exact absurd rfl (this.1 hb).2
    · rw [if_neg e, Bool.eq_iff_iff, this]
      exact ⟨fun h => h.1, fun h => ⟨h, e⟩⟩
  · show (absM _).val z u = if z = x then 0 else (absM m).val z u
    by_cases e : z = x
    · subst e
      rw [if_pos rfl, abs_val0 (fun h' => ((hn z).1 h').2 rfl)]
    · rw [if_neg e]
      by_cases hz : (absM m).here z = true
      · rw [abs_val ((hn z).2 ⟨hz, e⟩), abs_val hz]
        unfold getWord
        simp only [List.getElem?_modify]
        have : celOf x ≠ celOf z := fun h' => e (here_inj hz h h'.symm)
        cases m.cells[celOf z]? <;> simp [this]
      · rw [abs_val0 hz, abs_val0 (fun h' => hz ((hn z).1 h').1)]
  · obtain ⟨i, hi⟩ := List.getElem?_of_mem hc
    rw [List.getElem?_modify] at hi
    cases e : m.cells[i]? with
    | none => rw [e] at hi; simp at hi
    | some q =>
      have hq := W.words q (List.mem_of_getElem? e)
      rw [e] at hi
      by_cases e2 : celOf x = i
      · simp [e2] at hi; subst hi; exact hq
      · simp [e2] at hi; subst hi; exact hq
structure InsP (x : Instr) : Prop where
  A : x.A.toNat < 8
  C : 6 ≤ x.op → x.op ≤ 9 → 0 ≤ x.C ∧ x.C < 4
  B : x.op ≠ 0 → x.B.toNat < 8
  B0 : x.op ≠ 0 → 0 ≤ x.B
/-- What a step of a thread makes of it: all but alloc, mark. -/
theorem abs_exec (W : WM n code m) (ht : t < n) {x : Instr} (fx : InsP x) (R : (absM m).Req t x) (hb : ∀ u, ∀ e ∈ (absM m).buf u, (absM m).here e.a = true) {tg : Nat} (htg : 14 ≤ x.op → x.op ≤ 16 → labelAt x.to (code t) 0 = some tg) :
    absM (m.exec t x) = ((absM m).pre n t x).ex t x tg ∧ (m.exec t x).faults = m.faults ∧ WM n code (m.exec t x) := by
  obtain ⟨op, xa, xb, xc, to⟩ := x
  obtain ⟨hA, hC, hB, hB0⟩ := fx
  simp only at hA hC hB hB0 htg
  have hthr := W.code t ht
  match op, hC, hB, hB0, htg, R with
  | 0, hC, hB, hB0, htg, R => exact abs_setReg W ht hA xb
  | 1, hC, hB, hB0, htg, R => exact abs_setReg W ht hA _
  | 2, hC, hB, hB0, htg, R => exact abs_setReg W ht hA _
  | 3, hC, hB, hB0, htg, R => exact abs_setReg W ht hA _
  | 4, hC, hB, hB0, htg, R => exact abs_setReg W ht hA _
  | 5, hC, hB, hB0, htg, R => exact abs_setReg W ht hA _
  | 6, hC, hB, hB0, htg, R =>
    have R : (absM m).here ((absM m).reg t xb.toNat) = true := R
    have e := abs_names R
    have hc := hC (by omega) (by omega)
    unfold M.exec
    simp only [Thr.reg]
    rw [show (m.thr t).regs.getD xb.toNat 0 = (absM m).reg t xb.toNat from rfl, e]
    simp only
    have hv : look (m.waitsOf t) (((absM m).reg t xb.toNat - 1) % 64) (((absM m).reg t xb.toNat - 1) / 64) xc (getWord m.cells (((absM m).reg t xb.toNat - 1) % 64).toNat xc.toNat) = (absM m).vw t ((absM m).reg t xb.toNat) xc.toNat := by
      rw [look_lk _ (W.wts t) _ (abs_here.1 R).1 _ hc.1]
      unfold A.vw
      rw [abs_val R]
      rfl
    rw [hv]
    exact abs_setReg W ht hA _
  | 7, hC, hB, hB0, htg, R =>
    have R : (absM m).here ((absM m).reg t xa.toNat) = true := R
    have e := abs_names R
    have hc := hC (by omega) (by omega)
    unfold M.exec
    simp only [Thr.reg]
    rw [show (m.thr t).regs.getD xa.toNat 0 = (absM m).reg t xa.toNat from rfl, show (m.thr t).regs.getD xb.toNat 0 = (absM m).reg t xb.toNat from rfl, e]
    simp only
    have hlen : ((absM m).buf t).length = (m.waitsOf t).length := by show ((m.waitsOf t).map enOf).length = _; rw [List.length_map]
    unfold A.pre A.ex
    simp only
    rw [hlen]
    by_cases h8 : (m.waitsOf t).length ≥ 8
    · rw [if_pos h8, if_pos h8]
      obtain ⟨d1, d2, d3, d4⟩ := abs_drain W ht (hb t)
      have hr : (absM (m.drain t).1).here ((absM m).reg t xa.toNat) = true := by rw [d1, A.dr_here]; exact R
      obtain ⟨p1, p2⟩ := abs_push d3 ht hr hc ((absM m).reg t xb.toNat)
      refine ⟨?_, d2, p2⟩
      rw [p1, d1, A.dr_reg]
    · rw [if_neg h8, if_neg h8]
      obtain ⟨p1, p2⟩ := abs_push W ht R hc ((absM m).reg t xb.toNat)
      exact ⟨p1, rfl, p2⟩
  | 8, hC, hB, hB0, htg, R =>
    have R : (absM m).here ((absM m).reg t xb.toNat) = true := R
    have e := abs_names R
    have hc := hC (by omega) (by omega)
    unfold M.exec
    simp only [Thr.reg]
    rw [show (m.thr t).regs.getD xa.toNat 0 = (absM m).reg t xa.toNat from rfl, show (m.thr t).regs.getD xb.toNat 0 = (absM m).reg t xb.toNat from rfl, e]
    simp only
    obtain ⟨d1, d2, d3, d4⟩ := abs_fence _ rfl W ht (hb t)
    have hr : (absM (m.fence t)).here ((absM m).reg t xb.toNat) = true := by rw [d1, A.fn_here]; exact R
    obtain ⟨p1, p2⟩ := abs_write d3 hr (w := xc.toNat) (by omega) ((absM m).reg t xa.toNat)
    obtain ⟨q1, q2, q3⟩ := abs_setReg p2 ht hA (getWord (m.fence t).cells (celOf ((absM m).reg t xb.toNat)) xc.toNat)
    refine ⟨?_, by rw [← d2]; exact q2, q3⟩
    show absM (M.setReg { m.fence t with cells := setWord (m.fence t).cells (celOf ((absM m).reg t xb.toNat)) xc.toNat ((absM m).reg t xa.toNat) } t xa (getWord (m.fence t).cells (celOf ((absM m).reg t xb.toNat)) xc.toNat)) = _
    rw [q1, p1, ← abs_val hr, d1]
    unfold A.pre A.ex
    simp only [A.fn_reg]
  | 9, hC, hB, hB0, htg, R =>
    have R : (absM m).here ((absM m).reg t xa.toNat) = true := R
    have e := abs_names R
    have hc := hC (by omega) (by omega)
    unfold M.exec
    simp only [Thr.reg]
    simp only [show ∀ k, (m.thr t).regs.getD k 0 = (absM m).reg t k from fun _ => rfl, e]
    obtain ⟨d1, d2, d3, d4⟩ := abs_fence _ rfl W ht (hb t)
    have hr : (absM (m.fence t)).here ((absM m).reg t xa.toNat) = true := by rw [d1, A.fn_here]; exact R
    obtain ⟨p1, p2⟩ := abs_write d3 hr (w := xc.toNat) (by omega) ((absM m).reg t (xb + 1).toNat)
    have hv : getWord (m.fence t).cells (((absM m).reg t xa.toNat - 1) % 64).toNat xc.toNat = ((absM m).fn t).val ((absM m).reg t xa.toNat) xc.toNat := by
      rw [← d1]; exact (abs_val hr _).symm
    rw [hv]
    unfold A.pre A.ex
    simp only [A.fn_reg]
    by_cases h9 : ((absM m).fn t).val ((absM m).reg t xa.toNat) xc.toNat = (absM m).reg t xb.toNat
    · rw [if_pos h9, if_pos h9]
      obtain ⟨q1, q2, q3⟩ := abs_setReg p2 ht (a := xb) (hB (by omega)) (((absM m).fn t).val ((absM m).reg t xa.toNat) xc.toNat)
      refine ⟨?_, by rw [← d2]; exact q2, q3⟩
      show absM (M.setReg { m.fence t with cells := setWord (m.fence t).cells (celOf ((absM m).reg t xa.toNat)) xc.toNat ((absM m).reg t (xb + 1).toNat) } t xb _) = _
      rw [q1, p1, d1]
    · rw [if_neg h9, if_neg h9]
      obtain ⟨q1, q2, q3⟩ := abs_setReg d3 ht (a := xb) (hB (by omega)) (((absM m).fn t).val ((absM m).reg t xa.toNat) xc.toNat)
      refine ⟨?_, by rw [← d2]; exact q2, q3⟩
      rw [q1, d1]
  | 10, hC, hB, hB0, htg, R => exact absurd R (fun h => h)
  | 11, hC, hB, hB0, htg, R =>
    have R : (absM m).here ((absM m).reg t xa.toNat) = true := R
    have e := abs_names R
    unfold M.exec
    simp only [Thr.reg]
    rw [show (m.thr t).regs.getD xa.toNat 0 = (absM m).reg t xa.toNat from rfl, e]
    simp only
    obtain ⟨d1, d2, d3, d4⟩ := abs_fence _ rfl W ht (hb t)
    have hr : (absM (m.fence t)).here ((absM m).reg t xa.toNat) = true := by rw [d1, A.fn_here]; exact R
    obtain ⟨p1, p2⟩ := abs_free d3 hr
    refine ⟨?_, d2, p2⟩
    show absM { m.fence t with cells := (m.fence t).cells.modify (celOf ((absM m).reg t xa.toNat)) fun y => { y with here := false } } = _
    rw [p1, d1]
    unfold A.pre A.ex
    simp only [A.fn_reg]
  | 12, hC, hB, hB0, htg, R =>
    obtain ⟨d1, d2, d3, d4⟩ := abs_fence _ rfl W ht (hb t)
    exact ⟨d1, d2, d3⟩
  | 13, hC, hB, hB0, htg, R =>
    obtain ⟨d1, d2, d3, d4⟩ := abs_force n (Nat.le_refl _) W hb
    show absM (m.force m.T.length) = _ ∧ (m.force m.T.length).faults = _ ∧ WM n code (m.force m.T.length)
    rw [W.T]
    exact ⟨d1, d2, d3⟩
  | 14, hC, hB, hB0, htg, R =>
    have h := htg (by omega) (by omega)
    have hp := abs_setPc W ht tg
    unfold M.exec
    simp only [Thr.reg, M.jump, hthr, h, Option.getD_some]
    unfold A.pre A.ex
    simp only
    rw [show (m.thr t).regs.getD xa.toNat 0 = (absM m).reg t xa.toNat from rfl]
    by_cases h0 : (absM m).reg t xa.toNat = 0
    · rw [if_pos h0, if_pos h0]; exact hp
    · rw [if_neg h0, if_neg h0]; exact ⟨rfl, rfl, W⟩
  | 15, hC, hB, hB0, htg, R =>
    have h := htg (by omega) (by omega)
    have hp := abs_setPc W ht tg
    unfold M.exec
    simp only [Thr.reg, M.jump, hthr, h, Option.getD_some]
    unfold A.pre A.ex
    simp only
    rw [show (m.thr t).regs.getD xa.toNat 0 = (absM m).reg t xa.toNat from rfl, show (m.thr t).regs.getD xb.toNat 0 = (absM m).reg t xb.toNat from rfl]
    by_cases h0 : (absM m).reg t xa.toNat = (absM m).reg t xb.toNat
    · rw [if_pos h0, if_pos h0]; exact hp
    · rw [if_neg h0, if_neg h0]; exact ⟨rfl, rfl, W⟩
  | 16, hC, hB, hB0, htg, R =>
    have h := htg (by omega) (by omega)
    have hp := abs_setPc W ht tg
    unfold M.exec
    simp only [Thr.reg, M.jump, hthr, h, Option.getD_some]
    exact hp
  | 17, hC, hB, hB0, htg, R => exact ⟨rfl, rfl, W⟩
  | 18, hC, hB, hB0, htg, R => exact absurd R (fun h => h)
  | 19, hC, hB, hB0, htg, R =>
    have R : ¬ (absM m).reg t xa.toNat = 0 := R
    unfold M.exec
    simp only [Thr.reg]
    simp only [show ∀ k, (m.thr t).regs.getD k 0 = (absM m).reg t k from fun _ => rfl, if_neg R]
    exact ⟨rfl, trivial, W⟩
  | 20, hC, hB, hB0, htg, R => exact absurd R (fun h => h)
  | k + 21, hC, hB, hB0, htg, R => exact ⟨rfl, rfl, W⟩
end Qg
end
/- A cell given, seen by addresses; how often cells were given. -/
section
namespace Qg
open Qs
variable {n t : Nat} {code : Nat → List Instr} {m : M} {c : Nat}
def tms (m : M) : List Int := m.cells.map (·.times)
theorem tms_mod (l : List Cell) (c : Nat) (f : Cell → Cell) (hf : ∀ x, (f x).times = x.times) : (l.modify c f).map (·.times) = l.map (·.times) := by
  apply List.ext_getElem?
  intro i
  rw [List.getElem?_map, List.getElem?_map, List.getElem?_modify]
  cases l[i]? with
  | none => rfl
  | some x => by_cases e : c = i <;> simp [e, hf]
theorem tms_set (l : List Cell) (c w : Nat) (v : Int) : (setWord l c w v).map (·.times) = l.map (·.times) := tms_mod l c _ fun _ => rfl
theorem tms_drain1 (l : List Cell) (x : Wt) : (drain1 l x).1.map (·.times) = l.map (·.times) := by
  unfold drain1
  split
  · exact tms_set _ _ _ _
  · rfl
theorem tms_drainAll : ∀ (r : List Wt) (l : List Cell), (drainAll l r).1.map (·.times) = l.map (·.times)
  | [], l => rfl
  | x :: r, l => by
    show (drainAll (drain1 l x).1 r).1.map _ = _
    rw [tms_drainAll r, tms_drain1]
theorem tms_fence (m : M) (t : Nat) : tms (m.fence t) = tms m := tms_drainAll _ _
theorem tms_force (m : M) : ∀ k, tms (m.force k) = tms m
  | 0 => rfl
  | k + 1 => by show tms ((m.force k).fence k) = _; rw [tms_fence, tms_force m k]
theorem tms_drain (m : M) (t : Nat) : tms (m.drain t).1 = tms m := by
  unfold M.drain
  split
  · rfl
  · exact tms_drain1 _ _
theorem tms_exec (m : M) (t : Nat) (x : Instr) (h : x.op ≠ 10) : tms (m.exec t x) = tms m := by
  have hf := tms_fence m t
  unfold M.exec
  simp only
  split
  all_goals first
    | rfl
    | (exfalso; apply h; assumption)
    | (split <;> first
        | rfl
        | exact hf
        | (show (setWord _ _ _ _).map _ = _; rw [tms_set]; exact hf)
        | exact (tms_mod (m.fence t).cells _ (fun y => { y with here := false }) (fun _ => rfl)).trans hf
        | (split <;> first | rfl | exact tms_drain m t | exact hf | (show (setWord _ _ _ _).map _ = _; rw [tms_set]; exact hf))
        | (show tms (if _ then (m.drain t).1 else m) = _; split <;> first | rfl | exact tms_drain m t))
    | exact hf
    | exact tms_force m _
theorem allocAt_none : ∀ (l : List Cell) (i : Nat), allocAt l i = none → ∀ c ∈ l, c.here = true
  | [], _, _, c, hc => by simp at hc
  | x :: r, i, h, c, hc => by
    unfold allocAt at h
    split at h
    · rename_i hx
      rcases List.mem_cons.1 hc with rfl | h2
      · exact hx
      · exact allocAt_none r _ h c h2
    · cases h
theorem allocAt_some : ∀ (l : List Cell) (i : Nat) {k : Nat} {n : Int}, allocAt l i = some (k, n) → i ≤ k ∧ ∃ y, l[k - i]? = some y ∧ y.here = false ∧ y.times = n
  | [], _, _, _, h => by cases h
  | x :: r, i, k, n, h => by
    unfold allocAt at h
    split at h
    · obtain ⟨h1, y, h2, h3, h4⟩ := allocAt_some r _ h
      refine ⟨by omega, y, ?_, h3, h4⟩
      rw [show k - i = (k - (i + 1)) + 1 from by omega]
      exact h2
    · rename_i hx
      simp only [Option.some.injEq, Prod.mk.injEq] at h
      obtain ⟨rfl, rfl⟩ := h
      refine ⟨Nat.le_refl _, x, by simp, by simpa using hx, rfl⟩
def HokL (l : List Cell) : Prop := ∀ c ∈ l, c.here = true → 1 ≤ c.times
theorem hok_mod {l : List Cell} (h : HokL l) (c : Nat) (f : Cell → Cell) (hf : ∀ x, (f x).here = true → x.here = true ∧ (f x).times = x.times) : HokL (l.modify c f) := by
  intro y hy
  obtain ⟨i, hi⟩ := List.getElem?_of_mem hy
  rw [List.getElem?_modify] at hi
  cases e : l[i]? with
  | none => rw [e] at hi; simp at hi
  | some q =>
    have hq := h q (List.mem_of_getElem? e)
    rw [e] at hi
    by_cases e2 : c = i
    · simp [e2] at hi; subst hi; intro hh; rw [(hf q hh).2]; exact hq (hf q hh).1
    · simp [e2] at hi; subst hi; exact hq
theorem hok_set {l : List Cell} (h : HokL l) (c w : Nat) (v : Int) : HokL (setWord l c w v) := hok_mod h c _ fun _ hh => ⟨hh, rfl⟩
theorem hok_drain1 {l : List Cell} (h : HokL l) (x : Wt) : HokL (drain1 l x).1 := by
  unfold drain1
  split
  · exact hok_set h _ _ _
  · exact h
theorem hok_drainAll : ∀ (r : List Wt) {l : List Cell}, HokL l → HokL (drainAll l r).1
  | [], l, h => h
  | x :: r, l, h => hok_drainAll r (hok_drain1 h x)
theorem hok_fence (m : M) (t : Nat) (h : HokL m.cells) : HokL (m.fence t).cells := hok_drainAll _ h
theorem hok_force (m : M) (h : HokL m.cells) : ∀ k, HokL (m.force k).cells
  | 0 => h
  | k + 1 => hok_fence (m.force k) k (hok_force m h k)
theorem hok_drain (m : M) (t : Nat) (h : HokL m.cells) : HokL (m.drain t).1.cells := by
  unfold M.drain
  split
  · exact h
  · exact hok_drain1 h _
theorem hok_exec (m : M) (t : Nat) (x : Instr) (hN : ∀ v ∈ tms m, 0 ≤ v) (h : HokL m.cells) : HokL (m.exec t x).cells := by
  have hf := hok_fence m t h
  unfold M.exec
  simp only
  split
  all_goals first
    | exact h
    | (split <;> first
        | exact h
        | exact hf
        | exact hok_set hf _ _ _
        | exact hok_mod hf _ _ (fun _ hh => by simp at hh)
        | (split <;> first | exact h | exact hok_drain m t h | exact hf | exact hok_set hf _ _ _)
        | (show HokL (M.cells (if _ then (m.drain t).1 else m)); split <;> first | exact h | exact hok_drain m t h)
        | (rename_i i n e
           intro c hc
           have hc' : c ∈ m.cells.set i ⟨[0, 0, 0, 0], n + 1, true⟩ := hc
           rcases List.mem_or_eq_of_mem_set hc' with h1 | h1
           · exact h c h1
           · intro _
             obtain ⟨_, y, hy, _, hyt⟩ := allocAt_some _ _ e
             have := hN n (by rw [← hyt]; exact List.mem_map.2 ⟨y, List.mem_of_getElem? hy, rfl⟩)
             rw [h1]; simp only; omega))
    | exact hf
    | exact hok_force m h _
/-- A cell given: its address is none that was there. -/
theorem abs_alloc (W : WM n code m) (ht : t < n) {xa : Int} (hA : xa.toNat < 8) (hf : ∃ c ∈ m.cells, c.here = false) {N : Int} (hN : ∀ v ∈ tms m, 0 ≤ v ∧ v ≤ N) (hN2 : N < 60000000) (B C : Int) (to : List UInt8) :
    ∃ na, 0 < na ∧ (absM m).here na = false ∧ absM (m.exec t ⟨10, xa, B, C, to⟩) = ((absM m).give na).setR t xa.toNat na ∧ (m.exec t ⟨10, xa, B, C, to⟩).faults = m.faults ∧ WM n code (m.exec t ⟨10, xa, B, C, to⟩) ∧ (∀ v ∈ tms (m.exec t ⟨10, xa, B, C, to⟩), 0 ≤ v ∧ v ≤ N + 1) ∧ (m.exec t ⟨10, xa, B, C, to⟩).cells.length = m.cells.length := by
  cases e : allocAt m.cells 0 with
  | none =>
    obtain ⟨c, hc, hc2⟩ := hf
    rw [allocAt_none _ _ e c hc] at hc2; cases hc2
  | some p =>
    obtain ⟨k, g⟩ := p
    obtain ⟨_, y, hy, hyh, hyt⟩ := allocAt_some _ _ e
    rw [Nat.sub_zero] at hy
    have hk : k < m.cells.length := (List.getElem?_eq_some_iff.1 hy).1
    have hk64 : k < 64 := by have := W.cells; omega
    have hg := hN g (by rw [← hyt]; exact List.mem_map.2 ⟨y, List.mem_of_getElem? hy, rfl⟩)
    have hw : wordOf (k : Int) g = g * 64 + k + 1 := by
      unfold wordOf isWord
      rw [if_pos ⟨by omega, by omega, by omega, by omega, by simp [W32]; omega⟩]
    obtain ⟨na, hna⟩ : ∃ na, na = g * 64 + (k : Int) + 1 := ⟨_, rfl⟩
    have hcel : celOf na = k := by unfold celOf; omega
    have hgen : (na - 1) / 64 = g := by omega
    have hnh : (absM m).here na = false := by
      cases hb : (absM m).here na with
      | false => rfl
      | true =>
        obtain ⟨_, _, u, hu, hu2, _⟩ := abs_here.1 hb
        rw [hcel, hy] at hu; cases hu; rw [hyh] at hu2; cases hu2
    have W' : WM n code { m with cells := m.cells.set k ⟨[0, 0, 0, 0], g + 1, true⟩ } := W.cong rfl W.W (fun c hc => by
      rcases List.mem_or_eq_of_mem_set hc with h | h
      · exact W.words c h
      · rw [h]; rfl) (by simp) W.wts
    have hh : ∀ z, (absM { m with cells := m.cells.set k ⟨[0, 0, 0, 0], g + 1, true⟩ }).here z = true ↔ (z = na ∨ (absM m).here z = true) := fun z => by
      rw [abs_here, abs_here]
      simp only [List.getElem?_set]
      constructor
      · rintro ⟨a, b, u, c, d, f⟩
        by_cases e2 : k = celOf z
        · rw [if_pos e2, if_pos hk] at c
          cases c
          left
          unfold celOf at e2
          simp only at f
          omega
        · rw [if_neg e2] at c
          exact .inr ⟨a, b, u, c, d, f⟩
      · rintro (rfl | ⟨a, b, u, c, d, f⟩)
        · refine ⟨by omega, by omega, ⟨[0, 0, 0, 0], g + 1, true⟩, ?_, rfl, by simp only; omega⟩
          rw [if_pos hcel.symm, if_pos hk]
        · refine ⟨a, b, u, ?_, d, f⟩
          have : k ≠ celOf z := fun h => by rw [← h, hy] at c; cases c; rw [hyh] at d; cases d
          rw [if_neg this, c]
    have hex : m.exec t ⟨10, xa, B, C, to⟩ = M.setReg { m with cells := m.cells.set k ⟨[0, 0, 0, 0], g + 1, true⟩ } t xa (wordOf (k : Int) g) := by
      unfold M.exec
      simp only [e]
    obtain ⟨q1, q2, q3⟩ := abs_setReg W' ht hA (wordOf (k : Int) g)
    refine ⟨na, by omega, hnh, ?_, by rw [hex, q2], by rw [hex]; exact q3, fun v hv => ?_, by rw [hex]; show (m.cells.set _ _).length = _; simp⟩
    · rw [hex, q1, hw, ← hna]
      congr 1
      refine A_ext (fun z => ?_) (fun z w => ?_) (fun _ => rfl) (fun _ _ => rfl) (fun _ => rfl)
      · show _ = if z = na then true else (absM m).here z
        by_cases e2 : z = na
        · rw [if_pos e2]; exact (hh z).2 (.inl e2)
        · rw [if_neg e2, Bool.eq_iff_iff, hh]
          exact ⟨fun h => h.resolve_left e2, .inr⟩
      · show _ = if z = na then 0 else (absM m).val z w
        by_cases e2 : z = na
        · rw [if_pos e2, abs_val ((hh z).2 (.inl e2)), e2]
          unfold getWord
          rw [hcel]
          simp only [List.getElem?_set, if_true, if_pos hk, Option.map_some, Option.getD_some]
          match w with
          | 0 => rfl
          | 1 => rfl
          | 2 => rfl
          | 3 => rfl
          | w + 4 => rfl
        · rw [if_neg e2]
          by_cases hz : (absM m).here z = true
          · rw [abs_val ((hh z).2 (.inr hz)), abs_val hz]
            unfold getWord
            have : k ≠ celOf z := fun h => by
              obtain ⟨_, _, u, hu, hu2, _⟩ := abs_here.1 hz
              rw [← h, hy] at hu; cases hu; rw [hyh] at hu2; cases hu2
            simp only [List.getElem?_set, if_neg this]
          · rw [abs_val0 hz, abs_val0 (fun h => hz (((hh z).1 h).resolve_left e2))]
    · rw [hex] at hv
      have hv' : v ∈ (m.cells.set k ⟨[0, 0, 0, 0], g + 1, true⟩).map (·.times) := hv
      obtain ⟨c, hc, rfl⟩ := List.mem_map.1 hv'
      rcases List.mem_or_eq_of_mem_set hc with h | h
      · have := hN c.times (List.mem_map.2 ⟨c, h, rfl⟩); omega
      · rw [h]; simp only; omega
/-- All cells are there: as many addresses are. -/
theorem pigeon : ∀ (k : Nat) (l : List Nat), (∀ i, i < k → i ∈ l) → k ≤ l.length
  | 0, _, _ => Nat.zero_le _
  | k + 1, l, h => by
    have hk : k ∈ l := h k (by omega)
    have := pigeon k (l.erase k) fun i hi => (List.mem_erase_of_ne (by omega)).2 (h i (by omega))
    have hl := List.length_erase_of_mem hk
    have : 0 < l.length := List.length_pos_of_mem hk
    omega
theorem free_cell {l : List Int} (h : ∀ x, (absM m).here x = true → x ∈ l) (hl : l.length < m.cells.length) (hw : HokL m.cells) (hw2 : ∀ c ∈ m.cells, c.times < 60000000) (h64 : m.cells.length ≤ 64) : ∃ c ∈ m.cells, c.here = false := by
  refine Classical.byContradiction fun hno => ?_
  have hall : ∀ c ∈ m.cells, c.here = true := fun c hc => by
    cases e : c.here with
    | true => rfl
    | false => exact absurd ⟨c, hc, e⟩ hno
  have := pigeon m.cells.length (l.map celOf) fun i hi => by
    obtain ⟨y, hy⟩ : ∃ y, m.cells[i]? = some y := ⟨_, List.getElem?_eq_getElem hi⟩
    have hm := List.mem_of_getElem? hy
    have h1 := hall y hm
    have h2 := hw y hm h1
    have h3 := hw2 y hm
    refine List.mem_map.2 ⟨(y.times - 1) * 64 + i + 1, h _ (abs_here.2 ⟨by omega, by omega, y, ?_, h1, by omega⟩), by unfold celOf; omega⟩
    have : celOf ((y.times - 1) * 64 + i + 1) = i := by unfold celOf; omega
    rw [this, hy]
  rw [List.length_map] at this
  omega
end Qg
end
/- Rows of blocks of code: labels that stand in one block alone. -/
section
namespace Qu
open Qs
theorem labelAt_shift (to : List UInt8) : ∀ (c : List Instr) (k d : Nat), labelAt to c (k + d) = (labelAt to c k).map (· + d)
  | [], _, _ => rfl
  | x :: r, k, d => by
    unfold labelAt
    split
    · rfl
    · rw [show k + d + 1 = k + 1 + d from by omega]
      exact labelAt_shift to r (k + 1) d
theorem labelAt_skip {to : List UInt8} : ∀ {A : List Instr} (B : List Instr) (k : Nat), (∀ x ∈ A, x.op = 17 → x.to ≠ to) → labelAt to (A ++ B) k = labelAt to B (k + A.length)
  | [], B, k, _ => rfl
  | x :: A, B, k, h => by
    show labelAt to (x :: (A ++ B)) k = _
    unfold labelAt
    rw [if_neg (fun g => h x (by simp) g.1 g.2), labelAt_skip B (k + 1) (fun y hy => h y (by simp [hy])), List.length_cons, show k + 1 + A.length = k + (A.length + 1) from by omega]
    cases B <;> rfl
theorem labelAt_first {to : List UInt8} : ∀ {A : List Instr} (B : List Instr) (k : Nat) {j : Nat}, labelAt to A k = some j → labelAt to (A ++ B) k = some j
  | [], B, k, j, h => by cases h
  | x :: A, B, k, j, h => by
    show labelAt to (x :: (A ++ B)) k = _
    unfold labelAt at h ⊢
    split
    · rename_i g; rw [if_pos g] at h; exact h
    · rename_i g; rw [if_neg g] at h; exact labelAt_first B (k + 1) h
/-- A label of a block that stands in a row. -/
theorem row_label {A B C : List Instr} {to : List UInt8} {j : Nat} (h : ∀ x ∈ A, x.op = 17 → x.to ≠ to) (hb : labelAt to B 0 = some j) : labelAt to (A ++ (B ++ C)) 0 = some (A.length + j) := by
  rw [labelAt_skip _ _ h, labelAt_shift to (B ++ C) 0 A.length, labelAt_first C 0 hb]
  simp [Nat.add_comm]
/-- A block under other names. -/
def ren (ρ : List UInt8 → List UInt8) (x : Instr) : Instr := { x with to := ρ x.to }
theorem labelAt_ren {ρ : List UInt8 → List UInt8} {to : List UInt8} : ∀ {A : List Instr} (k : Nat), (∀ x ∈ A, x.op = 17 → ρ x.to = ρ to → x.to = to) → labelAt (ρ to) (A.map (ren ρ)) k = labelAt to A k
  | [], _, _ => rfl
  | x :: A, k, h => by
    show labelAt (ρ to) (ren ρ x :: A.map (ren ρ)) k = _
    unfold labelAt
    have ih := labelAt_ren (A := A) (k + 1) fun y hy => h y (by simp [hy])
    by_cases g : x.op = 17 ∧ x.to = to
    · rw [if_pos g, if_pos ⟨g.1, by show ρ x.to = _; rw [g.2]⟩]
    · rw [if_neg g, if_neg (fun g2 => g ⟨g2.1, h x (by simp) g2.1 g2.2⟩), ih]
end Qu
end
/- One thread alone: what it sees, and what its instructions make of it. -/
section
namespace Qo
open Qs Qg Qu
/-- Memory as one thread sees it: two cells as rows, the others by address. -/
structure Mm where
  o : List Int
  h : List Int
  v : Int → Nat → Int
def Mm.get (m : Mm) (x : Int) (w : Nat) : Int := if x = 1 then m.o.getD w 0 else if x = 2 then m.h.getD w 0 else m.v x w
def upv (v : Int → Nat → Int) (x : Int) (w : Nat) (u : Int) : Int → Nat → Int := fun y k => if y = x ∧ k = w then u else v y k
def Mm.put (m : Mm) (x : Int) (w : Nat) (u : Int) : Mm := if x = 1 then ⟨m.o.set w u, m.h, m.v⟩ else if x = 2 then ⟨m.o, m.h.set w u, m.v⟩ else ⟨m.o, m.h, upv m.v x w u⟩
structure S where
  pc : Nat
  r : List Int
  m : Mm
  hr : Int → Bool
  ms : List Int
namespace S
def rg (s : S) (a : Int) : Int := s.r.getD a.toNat 0
def set (s : S) (a v : Int) : S := ⟨s.pc, s.r.set a.toNat v, s.m, s.hr, s.ms⟩
def at' (s : S) (p : Nat) : S := ⟨p, s.r, s.m, s.hr, s.ms⟩
def wr (s : S) (x : Int) (w : Nat) (u : Int) : S := ⟨s.pc, s.r, s.m.put x w u, s.hr, s.ms⟩
def here (s : S) (x : Int) : Bool := if x = 1 then true else if x = 2 then true else s.hr x
def clr (v : Int → Nat → Int) (a : Int) : Int → Nat → Int := fun x w => if x = a then 0 else v x w
def free (s : S) (a : Int) : S := ⟨s.pc, s.r, ⟨s.m.o, s.m.h, clr s.m.v a⟩, fun x => if x = a then false else s.hr x, s.ms⟩
def give (s : S) (a : Int) : S := ⟨s.pc, s.r, ⟨s.m.o, s.m.h, clr s.m.v a⟩, fun x => if x = a then true else s.hr x, s.ms⟩
/-- An instruction: all but alloc and stop. -/
def ex (s : S) (x : Instr) (tg : Nat) : Option S :=
  match x.op with
  | 0 => some (s.set x.A x.B)
  | 1 => some (s.set x.A (s.rg x.B))
  | 2 => some (s.set x.A (sum2 2 (s.rg x.B) (s.rg x.C)))
  | 3 => some (s.set x.A (sum2 3 (s.rg x.B) (s.rg x.C)))
  | 4 => some (s.set x.A (sum2 4 (s.rg x.B) (s.rg x.C)))
  | 5 => some (s.set x.A (sum2 5 (s.rg x.B) (s.rg x.C)))
  | 6 => if s.here (s.rg x.B) = true then some (s.set x.A (s.m.get (s.rg x.B) x.C.toNat)) else none
  | 7 => if s.here (s.rg x.A) = true then some (s.wr (s.rg x.A) x.C.toNat (s.rg x.B)) else none
  | 8 => if s.here (s.rg x.B) = true then some ((s.wr (s.rg x.B) x.C.toNat (s.rg x.A)).set x.A (s.m.get (s.rg x.B) x.C.toNat)) else none
  | 9 => if s.here (s.rg x.A) = true then some ((if s.m.get (s.rg x.A) x.C.toNat = s.rg x.B then s.wr (s.rg x.A) x.C.toNat (s.rg (x.B + 1)) else s).set x.B (s.m.get (s.rg x.A) x.C.toNat)) else none
  | 11 => if s.rg x.A ≠ 1 ∧ s.rg x.A ≠ 2 ∧ s.hr (s.rg x.A) = true then some (s.free (s.rg x.A)) else none
  | 12 => some s
  | 13 => some s
  | 14 => if s.rg x.A = 0 then some (s.at' tg) else some s
  | 15 => if s.rg x.A = s.rg x.B then some (s.at' tg) else some s
  | 16 => some (s.at' tg)
  | 17 => some s
  | 18 => if s.ms.length < 500 then some ⟨s.pc, s.r, s.m, s.hr, s.ms ++ [s.rg x.A]⟩ else none
  | 19 => if s.rg x.A = 0 then none else some s
  | _ => none
/-- A step in a block. -/
def ev1 (B : List Instr) (s : S) : Option S := match B[s.pc]? with
  | none => none
  | some x => (s.at' (s.pc + 1)).ex x ((labelAt x.to B 0).getD 0)
def evn (B : List Instr) : Nat → S → Option S
  | 0, s => some s
  | n + 1, s => match ev1 B s with
    | none => none
    | some s' => evn B n s'
end S
/-- A block that stands in code. -/
structure InRow (code : List Instr) (a : Nat) (B : List Instr) : Prop where
  ins : ∀ (i : Nat) x, B[i]? = some x → code[a + i]? = some x
  ip : ∀ x ∈ B, InsP x
  jmp : ∀ x ∈ B, 14 ≤ x.op → x.op ≤ 16 → ∃ j, labelAt x.to B 0 = some j ∧ labelAt x.to code 0 = some (a + j)
variable {code B : List Instr} {a : Nat} {s s' : S} {N : Int} {m : M}
theorem put_get {m : Mm} (h : m.o.length = 4 ∧ m.h.length = 4) {x : Int} {w : Nat} (hw : w < 4) (u : Int) (y : Int) (k : Nat) : (m.put x w u).get y k = if y = x ∧ k = w then u else m.get y k := by
  unfold Mm.put
  by_cases h1 : x = 1
  · subst h1
    rw [if_pos rfl]
    unfold Mm.get
    simp only
    by_cases e : y = 1
    · subst e
      rw [if_pos rfl, if_pos rfl]
      simp only [List.getD, List.getElem?_set, true_and]
      by_cases e2 : k = w
      · subst e2; rw [if_pos rfl, if_pos rfl, if_pos (by omega)]; rfl
      · rw [if_neg e2, if_neg (fun h => e2 h.symm)]
    · rw [if_neg e, if_neg e, if_neg (c := y = 1 ∧ k = w) (fun h => e h.1)]
  · rw [if_neg h1]
    by_cases h2 : x = 2
    · subst h2
      rw [if_pos rfl]
      unfold Mm.get
      simp only
      by_cases e : y = 1
      · subst e
        rw [if_pos rfl, if_pos rfl, if_neg (c := (1 : Int) = 2 ∧ k = w) (fun h => by omega)]
      · rw [if_neg e, if_neg e]
        by_cases e3 : y = 2
        · subst e3
          rw [if_pos rfl, if_pos rfl]
          simp only [List.getD, List.getElem?_set, true_and]
          by_cases e2 : k = w
          · subst e2; rw [if_pos rfl, if_pos rfl, if_pos (by omega)]; rfl
          · rw [if_neg e2, if_neg (fun h => e2 h.symm)]
        · rw [if_neg e3, if_neg e3, if_neg (c := y = 2 ∧ k = w) (fun h => e3 h.1)]
    · rw [if_neg h2]
      unfold Mm.get upv
      simp only
      by_cases e : y = x
      · subst e
        rw [if_neg h1, if_neg h2, if_neg h1, if_neg h2]
      · rw [if_neg (c := y = x ∧ k = w) (fun h => e h.1), if_neg (c := y = x ∧ k = w) (fun h => e h.1)]
theorem put_len {m : Mm} (h : m.o.length = 4 ∧ m.h.length = 4) (x : Int) (w : Nat) (u : Int) : (m.put x w u).o.length = 4 ∧ (m.put x w u).h.length = 4 := by
  unfold Mm.put
  split
  · simpa using h
  · split
    · simpa using h
    · exact h
/-- A drain changes nothing of what its thread sees. -/
theorem dr_vw (r : A) (x : Int) (w : Nat) : (r.dr 0).vw 0 x w = r.vw 0 x w := by
  unfold A.dr
  cases e : r.buf 0 with
  | nil => rfl
  | cons y l =>
    unfold A.vw
    simp only
    rw [e]
    show lk1 (if (0 : Nat) = 0 then l else r.buf 0) x w (if x = y.a ∧ w = y.w then y.v else r.val x w) = lk1 (y :: l) x w (r.val x w)
    rw [if_pos rfl]
    show _ = lk1 l x w (if y.a = x ∧ y.w = w then y.v else r.val x w)
    congr 1
    by_cases h : x = y.a ∧ w = y.w
    · rw [if_pos h, if_pos ⟨h.1.symm, h.2.symm⟩]
    · rw [if_neg h, if_neg (fun g => h ⟨g.1.symm, g.2.symm⟩)]
theorem lk1_snoc (l : List En) (e : En) (x : Int) (w : Nat) (v : Int) : lk1 (l ++ [e]) x w v = if e.a = x ∧ e.w = w then e.v else lk1 l x w v := by
  unfold lk1; rw [List.foldl_append]; rfl
theorem lk1_none {x : Int} : ∀ {l : List En}, (∀ e ∈ l, e.a ≠ x) → ∀ (w : Nat) (v : Int), lk1 l x w v = v
  | [], _, w, v => rfl
  | e :: l, h, w, v => by
    show lk1 l x w (if e.a = x ∧ e.w = w then e.v else v) = v
    rw [if_neg (fun g => h e (by simp) g.1)]
    exact lk1_none (fun y hy => h y (by simp [hy])) w v
theorem dra_vw (x : Int) (w : Nat) : ∀ (k : Nat) (r : A), (r.dra 0 k).vw 0 x w = r.vw 0 x w
  | 0, r => rfl
  | k + 1, r => by show ((r.dr 0).dra 0 k).vw 0 x w = _; rw [dra_vw x w k, dr_vw]
theorem pre_vw (r : A) (i : Instr) (x : Int) (w : Nat) : (r.pre 1 0 i).vw 0 x w = r.vw 0 x w := by
  have hf : (r.fn 0).vw 0 x w = r.vw 0 x w := dra_vw x w _ r
  unfold A.pre
  split
  · split
    · exact dr_vw r x w
    · rfl
  · exact hf
  · exact hf
  · exact hf
  · exact hf
  · exact hf
  · rfl
theorem pre_sub (r : A) (i : Instr) : ∀ e ∈ (r.pre 1 0 i).buf 0, e ∈ r.buf 0 :=
  A.pre_keep (P := fun r' => ∀ e ∈ r'.buf 0, e ∈ r.buf 0) (fun r' t h e he => h e (A.dr_mem he)) r 1 0 i (fun e he => he)
theorem pre_fen (r : A) (i : Instr) (h : i.op = 8 ∨ i.op = 9 ∨ i.op = 11) : (r.pre 1 0 i).buf 0 = [] := by
  unfold A.pre
  rcases h with h | h | h <;> (rw [h]; simp only; rw [A.fn_buf, if_pos rfl])
/-- What one thread sees. -/
structure View (a : Nat) (s : S) (r : A) : Prop where
  here : ∀ x, r.here x = s.here x
  val : ∀ x w, r.vw 0 x w = s.m.get x w
  reg : ∀ k, r.reg 0 k = s.r.getD k 0
  r8 : s.r.length = 8
  pc : r.pc 0 = a + s.pc
  bufs : ∀ e ∈ r.buf 0, r.here e.a = true
  m4 : s.m.o.length = 4 ∧ s.m.h.length = 4
variable {r : A}
theorem View.set (V : View a s r) {x : Int} (hx : x.toNat < 8) (v : Int) : View a (s.set x v) (r.setR 0 x.toNat v) :=
  ⟨V.here, V.val, fun k => by
    show (if (0 : Nat) = 0 ∧ k = x.toNat then v else r.reg 0 k) = (s.r.set x.toNat v).getD k 0
    have := V.r8
    simp only [true_and, List.getD, List.getElem?_set]
    by_cases e : k = x.toNat
    · subst e; rw [if_pos rfl, if_pos rfl, if_pos (by omega)]; rfl
    · rw [if_neg e, if_neg (fun h => e h.symm)]; exact V.reg k, by show (s.r.set _ _).length = 8; rw [List.length_set]; exact V.r8, V.pc, V.bufs, V.m4⟩
theorem View.wr (V : View a s r) {x : Int} (hx : s.here x = true) {w : Nat} (hw : w < 4) (u : Int) : View a (s.wr x w u) (r.setB 0 (r.buf 0 ++ [⟨x, w, u⟩])) :=
  ⟨V.here, fun y k => by
    show lk1 (if (0 : Nat) = 0 then r.buf 0 ++ [⟨x, w, u⟩] else r.buf 0) y k (r.val y k) = (s.m.put x w u).get y k
    rw [if_pos rfl, lk1_snoc, put_get V.m4 hw, ← V.val y k]
    by_cases e : y = x ∧ k = w
    · rw [if_pos e, if_pos ⟨e.1.symm, e.2.symm⟩]
    · rw [if_neg e, if_neg (fun h => e ⟨h.1.symm, h.2.symm⟩)]; rfl, V.reg, V.r8, V.pc, fun e he => by
    have he' : e ∈ (if (0 : Nat) = 0 then r.buf 0 ++ [(⟨x, w, u⟩ : En)] else r.buf 0) := he
    rw [if_pos rfl] at he'
    rcases List.mem_append.1 he' with h | h
    · exact V.bufs e h
    · rw [List.mem_singleton] at h
      subst h
      exact (V.here x).trans hx, put_len V.m4 _ _ _⟩
theorem View.put (V : View a s r) (hb : r.buf 0 = []) {x : Int} {w : Nat} (hw : w < 4) (u : Int) : View a (s.wr x w u) (r.put ⟨x, w, u⟩) :=
  ⟨V.here, fun y k => by
    show lk1 (r.buf 0) y k (if y = x ∧ k = w then u else r.val y k) = (s.m.put x w u).get y k
    rw [hb, put_get V.m4 hw, ← V.val y k]
    unfold A.vw
    rw [hb]; rfl, V.reg, V.r8, V.pc, V.bufs, put_len V.m4 _ _ _⟩
theorem View.jmp (V : View a s r) (p : Nat) : View a (s.at' p) (r.setP 0 (a + p)) :=
  ⟨V.here, V.val, V.reg, V.r8, by show (if (0 : Nat) = 0 then a + p else r.pc 0) = a + p; rw [if_pos rfl], V.bufs, V.m4⟩
theorem clr_get {m : Mm} {x y : Int} (h1 : x ≠ 1) (h2 : x ≠ 2) (w : Nat) : Mm.get ⟨m.o, m.h, S.clr m.v x⟩ y w = if y = x then 0 else m.get y w := by
  unfold Mm.get S.clr
  simp only
  by_cases e : y = x
  · subst e; rw [if_neg h1, if_neg h2, if_pos rfl, if_pos rfl]
  · rw [if_neg e, if_neg e]
theorem View.free (V : View a s r) (hb : r.buf 0 = []) {x : Int} (h1 : x ≠ 1) (h2 : x ≠ 2) : View a (s.free x) (r.free x) :=
  ⟨fun y => by
    show (if y = x then false else r.here y) = (if y = 1 then true else if y = 2 then true else if y = x then false else s.hr y)
    by_cases e : y = x
    · subst e; rw [if_pos rfl, if_neg h1, if_neg h2, if_pos rfl]
    · rw [if_neg e, if_neg e]; exact V.here y, fun y w => by
    show lk1 (r.buf 0) y w (if y = x then 0 else r.val y w) = Mm.get ⟨s.m.o, s.m.h, S.clr s.m.v x⟩ y w
    rw [clr_get h1 h2, hb, ← V.val y w]
    unfold A.vw
    rw [hb]; rfl, V.reg, V.r8, V.pc, fun e he => by
    (have he' : e ∈ r.buf 0 := he; rw [hb] at he'; cases he'), V.m4⟩
theorem View.give (V : View a s r) {x : Int} (hx : s.here x = false) : View a (s.give x) (r.give x) := by
  have h1 : x ≠ 1 := fun e => by subst e; cases hx
  have h2 : x ≠ 2 := fun e => by subst e; cases hx
  have hne : ∀ e ∈ r.buf 0, e.a ≠ x := fun e he g => by
    have := V.bufs e he
    rw [g, V.here, hx] at this; cases this
  exact ⟨fun y => by
    show (if y = x then true else r.here y) = (if y = 1 then true else if y = 2 then true else if y = x then true else s.hr y)
    by_cases e : y = x
    · subst e; rw [if_pos rfl, if_neg h1, if_neg h2, if_pos rfl]
    · rw [if_neg e, if_neg e]; exact V.here y, fun y w => by
    show lk1 (r.buf 0) y w (if y = x then 0 else r.val y w) = Mm.get ⟨s.m.o, s.m.h, S.clr s.m.v x⟩ y w
    rw [clr_get h1 h2, ← V.val y w]
    by_cases e : y = x
    · subst e; rw [if_pos rfl, if_pos rfl, lk1_none hne]
    · rw [if_neg e, if_neg e]; rfl, V.reg, V.r8, V.pc, fun e he => by
    show (if e.a = x then true else r.here e.a) = true
    split
    · rfl
    · exact V.bufs e he, V.m4⟩
/-- An instruction. -/
theorem View.ex (V : View a s r) {x : Instr} (ip : InsP x) {tg tg' : Nat} (htg : 14 ≤ x.op → x.op ≤ 16 → tg' = a + tg) (hfen : x.op = 8 ∨ x.op = 9 ∨ x.op = 11 → r.buf 0 = []) (h18 : x.op ≠ 18) (e : s.ex x tg = some s') : View a s' (r.ex 0 x tg') := by
  obtain ⟨op, xa, xb, xc, to⟩ := x
  obtain ⟨hA, hC, hB, hB0⟩ := ip
  simp only at hA hC hB hB0 htg hfen h18
  have hg : ∀ k : Int, r.reg 0 k.toNat = s.rg k := fun k => V.reg _
  match op, hC, hB, hB0, htg, hfen, h18, e with
  | 0, hC, hB, hB0, htg, hfen, h18, e => cases e; exact V.set hA xb
  | 1, hC, hB, hB0, htg, hfen, h18, e => cases e; show View a _ (r.setR 0 xa.toNat (r.reg 0 xb.toNat)); rw [hg]; exact V.set hA _
  | 2, hC, hB, hB0, htg, hfen, h18, e => cases e; show View a _ (r.setR 0 xa.toNat (sum2 2 (r.reg 0 xb.toNat) (r.reg 0 xc.toNat))); rw [hg, hg]; exact V.set hA _
  | 3, hC, hB, hB0, htg, hfen, h18, e => cases e; show View a _ (r.setR 0 xa.toNat (sum2 3 (r.reg 0 xb.toNat) (r.reg 0 xc.toNat))); rw [hg, hg]; exact V.set hA _
  | 4, hC, hB, hB0, htg, hfen, h18, e => cases e; show View a _ (r.setR 0 xa.toNat (sum2 4 (r.reg 0 xb.toNat) (r.reg 0 xc.toNat))); rw [hg, hg]; exact V.set hA _
  | 5, hC, hB, hB0, htg, hfen, h18, e => cases e; show View a _ (r.setR 0 xa.toNat (sum2 5 (r.reg 0 xb.toNat) (r.reg 0 xc.toNat))); rw [hg, hg]; exact V.set hA _
  | 6, hC, hB, hB0, htg, hfen, h18, e =>
    unfold S.ex at e
    simp only at e
    split at e
    · cases e
      show View a _ (r.setR 0 xa.toNat (r.vw 0 (r.reg 0 xb.toNat) xc.toNat))
      rw [hg, V.val]; exact V.set hA _
    · cases e
  | 7, hC, hB, hB0, htg, hfen, h18, e =>
    have hc := hC (by omega) (by omega)
    unfold S.ex at e
    simp only at e
    split at e
    · rename_i hh
      cases e
      show View a _ (r.setB 0 (r.buf 0 ++ [⟨r.reg 0 xa.toNat, xc.toNat, r.reg 0 xb.toNat⟩]))
      rw [hg, hg]; exact V.wr hh (by omega) _
    · cases e
  | 8, hC, hB, hB0, htg, hfen, h18, e =>
    have hc := hC (by omega) (by omega)
    have hb := hfen (.inl rfl)
    unfold S.ex at e
    simp only at e
    split at e
    · rename_i hh
      cases e
      show View a _ ((r.put ⟨r.reg 0 xb.toNat, xc.toNat, r.reg 0 xa.toNat⟩).setR 0 xa.toNat (r.val (r.reg 0 xb.toNat) xc.toNat))
      have hv : r.val (s.rg xb) xc.toNat = s.m.get (s.rg xb) xc.toNat := by
        rw [← V.val]; unfold A.vw; rw [hb]; rfl
      rw [hg, hg, hv]
      exact (V.put hb (by omega) _).set hA _
    · cases e
  | 9, hC, hB, hB0, htg, hfen, h18, e =>
    have hc := hC (by omega) (by omega)
    have hb := hfen (.inr (.inl rfl))
    unfold S.ex at e
    simp only at e
    split at e
    · rename_i hh
      cases e
      show View a _ ((if r.val (r.reg 0 xa.toNat) xc.toNat = r.reg 0 xb.toNat then r.put ⟨r.reg 0 xa.toNat, xc.toNat, r.reg 0 (xb + 1).toNat⟩ else r).setR 0 xb.toNat (r.val (r.reg 0 xa.toNat) xc.toNat))
      have hv : r.val (s.rg xa) xc.toNat = s.m.get (s.rg xa) xc.toNat := by
        rw [← V.val]; unfold A.vw; rw [hb]; rfl
      rw [hg, hg, hg, hv]
      split
      · exact (V.put hb (by omega) _).set (hB (by omega)) _
      · exact V.set (hB (by omega)) _
    · cases e
  | 10, hC, hB, hB0, htg, hfen, h18, e => cases e
  | 11, hC, hB, hB0, htg, hfen, h18, e =>
    have hb := hfen (.inr (.inr rfl))
    unfold S.ex at e
    simp only at e
    split at e
    · rename_i hh
      cases e
      show View a _ (r.free (r.reg 0 xa.toNat))
      rw [hg]; exact V.free hb hh.1 hh.2.1
    · cases e
  | 12, hC, hB, hB0, htg, hfen, h18, e => cases e; exact V
  | 13, hC, hB, hB0, htg, hfen, h18, e => cases e; exact V
  | 14, hC, hB, hB0, htg, hfen, h18, e =>
    have ht := htg (by omega) (by omega)
    subst ht
    unfold S.ex at e
    simp only at e
    show View a _ (if r.reg 0 xa.toNat = 0 then r.setP 0 (a + tg) else r)
    rw [hg]
    split at e
    · rename_i hh
      cases e
      rw [if_pos hh]; exact V.jmp tg
    · rename_i hh
      cases e
      rw [if_neg hh]; exact V
  | 15, hC, hB, hB0, htg, hfen, h18, e =>
    have ht := htg (by omega) (by omega)
    subst ht
    unfold S.ex at e
    simp only at e
    show View a _ (if r.reg 0 xa.toNat = r.reg 0 xb.toNat then r.setP 0 (a + tg) else r)
    rw [hg, hg]
    split at e
    · rename_i hh
      cases e
      rw [if_pos hh]; exact V.jmp tg
    · rename_i hh
      cases e
      rw [if_neg hh]; exact V
  | 16, hC, hB, hB0, htg, hfen, h18, e =>
    have ht := htg (by omega) (by omega)
    subst ht
    cases e; exact V.jmp tg
  | 17, hC, hB, hB0, htg, hfen, h18, e => cases e; exact V
  | 18, hC, hB, hB0, htg, hfen, h18, e => exact absurd rfl h18
  | 19, hC, hB, hB0, htg, hfen, h18, e =>
    unfold S.ex at e
    simp only at e
    split at e
    · cases e
    · cases e; exact V
  | n + 20, hC, hB, hB0, htg, hfen, h18, e => cases e
theorem View.req (V : View a s r) {x : Instr} {tg : Nat} (h18 : x.op ≠ 18) (e : s.ex x tg = some s') : r.Req 0 x := by
  obtain ⟨op, xa, xb, xc, to⟩ := x
  have hg : ∀ k : Int, r.reg 0 k.toNat = s.rg k := fun k => V.reg _
  unfold A.Req
  unfold S.ex at e
  simp only at e h18 ⊢
  split at e
  all_goals first
    | trivial
    | (split at e <;> first | (rename_i hh; show r.here _ = true; rw [hg, V.here]; exact hh) | (cases e; done))
    | (cases e; done)
    | (cases e; trivial)
    | skip
  · split at e
    · rename_i hh
      show r.here _ = true
      rw [hg, V.here]
      unfold S.here
      rw [if_neg hh.1, if_neg hh.2.1]; exact hh.2.2
    · cases e
  · split at e
    · cases e
    · rename_i hh
      show r.reg 0 _ ≠ 0
      rw [hg]; exact hh
end Qo
end
/- One thread alone: steps of the plain machine. -/
section
namespace Qo
open Qs Qg Qu
structure Sm (code : List Instr) (a : Nat) (s : S) (N : Int) (m : M) : Prop where
  W : WM 1 (fun _ => code) m
  ft : m.faults = 0
  tm : ∀ v ∈ tms m, 0 ≤ v ∧ v ≤ N
  hok : HokL m.cells
  len : m.cells.length = 64
  V : View a s (absM m)
  ms : m.marks = s.ms.map fun v => ((0 : Int), v)
variable {code B : List Instr} {a k : Nat} {s s' : S} {N : Int} {m m0 : M}
theorem o_force_marks (m : M) : ∀ k, (m.force k).marks = m.marks
  | 0 => rfl
  | k + 1 => by show ((m.force k).fence k).marks = _; exact o_force_marks m k
theorem o_drain_marks (m : M) (t : Nat) : (m.drain t).1.marks = m.marks := by
  unfold M.drain
  split <;> rfl
theorem o_exec_marks (m : M) (t : Nat) (x : Instr) (h : x.op ≠ 18) : (m.exec t x).marks = m.marks := by
  unfold M.exec
  simp only
  split
  all_goals first
    | rfl
    | exact absurd (by assumption) h
    | exact o_force_marks m _
    | (split <;> first
        | rfl
        | (split <;> first | rfl | exact o_drain_marks m t)
        | (show M.marks (if _ then (m.drain t).1 else m) = _; split <;> first | rfl | exact o_drain_marks m t)
        | (show M.marks (if _ then _ else _) = _; split <;> rfl))
theorem o_tms_len (m : M) : (tms m).length = m.cells.length := by unfold tms; rw [List.length_map]
theorem Sm.buf1 (W : WM 1 (fun _ => code) m) : ∀ u, 1 ≤ u → (absM m).buf u = [] := fun u hu => by
  show (m.waitsOf u).map enOf = []
  unfold M.waitsOf
  rw [List.getD, List.getElem?_eq_none (by rw [W.W]; exact hu)]
  rfl
theorem View.pre {r : A} (x : Instr) (V : View a s r) : View a s (r.pre 1 0 x) := by
  have h1 : (r.pre 1 0 x).reg = r.reg := A.pre_keep (P := fun s' => s'.reg = r.reg) (fun s' u h => by rw [A.dr_reg]; exact h) _ _ _ _ rfl
  have h2 : (r.pre 1 0 x).here = r.here := A.pre_keep (P := fun s' => s'.here = r.here) (fun s' u h => by rw [A.dr_here]; exact h) _ _ _ _ rfl
  have h3 : (r.pre 1 0 x).pc = r.pc := A.pre_keep (P := fun s' => s'.pc = r.pc) (fun s' u h => by rw [A.dr_pc]; exact h) _ _ _ _ rfl
  exact ⟨fun y => by rw [h2]; exact V.here y, fun y w => by rw [pre_vw]; exact V.val y w, fun k => by rw [h1]; exact V.reg k, V.r8, by rw [h3]; exact V.pc, fun e he => by rw [h2]; exact V.bufs e (pre_sub r x e he), V.m4⟩
theorem Sm.step (h : Sm code a s N m) (h0 : 0 ≤ N) (hB : InRow code a B) (e : S.ev1 B s = some s') : Sm code a s' (N + 1) (m.step 0).1 := by
  unfold S.ev1 at e
  cases hx : B[s.pc]? with
  | none => rw [hx] at e; cases e
  | some x =>
    rw [hx] at e
    simp only at e
    have hc := hB.ins _ _ hx
    have hm := List.mem_of_getElem? hx
    have ip := hB.ip x hm
    have hpc : (m.thr 0).pc = a + s.pc := h.V.pc
    have h20 : x.op ≠ 20 := fun g => by unfold S.ex at e; rw [g] at e; cases e
    have h10 : x.op ≠ 10 := fun g => by unfold S.ex at e; rw [g] at e; cases e
    unfold M.step
    rw [h.W.code 0 (by omega), hpc, hc]
    simp only
    rw [if_neg h20]
    obtain ⟨p1, p2, p3⟩ := abs_setPc h.W (t := 0) (by omega) (a + s.pc + 1)
    obtain ⟨m1, hm1⟩ : ∃ m1, m1 = m.setPc 0 (a + s.pc + 1) := ⟨_, rfl⟩
    rw [← hm1] at p1 p2 p3 ⊢
    have hft1 : m1.faults = 0 := by rw [p2]; exact h.ft
    have htm1 : tms m1 = tms m := by rw [hm1]; rfl
    have hok1 : HokL m1.cells := by rw [hm1]; exact h.hok
    have hcl1 : m1.cells = m.cells := by rw [hm1]; rfl
    have hmk1 : m1.marks = m.marks := by rw [hm1]; rfl
    clear hm1
    have V1 : View a (s.at' (s.pc + 1)) (absM m1) := by
      rw [p1]; exact h.V.jmp (s.pc + 1)
    have hbs : ∀ u, ∀ e ∈ (absM m1).buf u, (absM m1).here e.a = true := fun u y hy => by
      by_cases hu : u = 0
      · subst hu; exact V1.bufs y hy
      · rw [Sm.buf1 p3 u (by omega)] at hy; cases hy
    by_cases h18 : x.op = 18
    · obtain ⟨op, xa, xb, xc, to⟩ := x
      simp only at h18
      subst h18
      unfold S.ex at e
      simp only at e
      split at e
      · rename_i hl
        have hlen : m1.marks.length < 500 := by rw [hmk1, h.ms, List.length_map]; exact hl
        have hex : m1.exec 0 ⟨18, xa, xb, xc, to⟩ = { m1 with marks := m1.marks ++ [(((0 : Nat) : Int), (m1.thr 0).reg xa)] } := by
          unfold M.exec
          simp only [if_pos hlen]
        rw [hex]
        cases e
        refine ⟨p3.cong rfl p3.W p3.words rfl p3.wts, hft1, fun w hw => ?_, hok1, by show m1.cells.length = 64; rw [hcl1]; exact h.len, ⟨V1.here, V1.val, V1.reg, V1.r8, V1.pc, V1.bufs, V1.m4⟩, ?_⟩
        · have hw' : w ∈ tms m1 := hw
          rw [htm1] at hw'
          have := h.tm w hw'; omega
        · show m1.marks ++ [(((0 : Nat) : Int), (m1.thr 0).reg xa)] = (s.ms ++ [s.rg xa]).map _
          have hr : (m1.thr 0).reg xa = s.rg xa := V1.reg xa.toNat
          rw [hmk1, h.ms, hr, List.map_append]; rfl
      · cases e
    · obtain ⟨tg', t1, t2⟩ : ∃ tg', (14 ≤ x.op → x.op ≤ 16 → labelAt x.to code 0 = some tg') ∧ (14 ≤ x.op → x.op ≤ 16 → tg' = a + (labelAt x.to B 0).getD 0) := by
        by_cases g : 14 ≤ x.op ∧ x.op ≤ 16
        · obtain ⟨j, j1, j2⟩ := hB.jmp x hm g.1 g.2
          exact ⟨a + j, fun _ _ => j2, fun _ _ => by rw [j1]; rfl⟩
        · exact ⟨0, fun g1 g2 => absurd ⟨g1, g2⟩ g, fun g1 g2 => absurd ⟨g1, g2⟩ g⟩
      obtain ⟨r1, r2, r3⟩ := abs_exec p3 (t := 0) (by omega) ip (V1.req h18 e) hbs t1
      have V2 := View.ex (View.pre x V1) ip t2 (fun g => pre_fen _ _ g) h18 e
      rw [← r1] at V2
      have hmks : s'.ms = s.ms := by
        obtain ⟨op, xa, xb, xc, to⟩ := x
        simp only at h18
        unfold S.ex at e
        simp only at e
        split at e
        all_goals first
          | (cases e <;> rfl)
          | exact absurd rfl h18
          | (split at e <;> first | (cases e <;> rfl) | (cases e; simp only [S.set]; split <;> rfl))
      refine ⟨r3, by rw [r2]; exact hft1, fun v hv => ?_, hok_exec _ _ _ (fun v hv => ?_) hok1, ?_, V2, ?_⟩
      · rw [tms_exec _ _ _ h10, htm1] at hv
        have := h.tm v hv; omega
      · rw [htm1] at hv; exact (h.tm v hv).1
      · rw [← o_tms_len, tms_exec _ _ _ h10, htm1, o_tms_len]; exact h.len
      · rw [o_exec_marks _ _ _ h18, hmk1, hmks]; exact h.ms
theorem Sm.alloc (h : Sm code a s N m) (h0 : 0 ≤ N) (hN : N < 50000000) (hB : InRow code a B) {xa : Int} {to : List UInt8} (hx : B[s.pc]? = some ⟨10, xa, 0, 0, to⟩) (hcov : ∃ l : List Int, (∀ x, s.here x = true → x ∈ l) ∧ l.length < 64) :
    ∃ na, 0 < na ∧ s.here na = false ∧ Sm code a (((s.at' (s.pc + 1)).give na).set xa na) (N + 1) (m.step 0).1 := by
  have hc := hB.ins _ _ hx
  have hm := List.mem_of_getElem? hx
  have ip := hB.ip _ hm
  have hpc : (m.thr 0).pc = a + s.pc := h.V.pc
  unfold M.step
  rw [h.W.code 0 (by omega), hpc, hc]
  simp only
  rw [if_neg (by omega)]
  obtain ⟨p1, p2, p3⟩ := abs_setPc h.W (t := 0) (by omega) (a + s.pc + 1)
  obtain ⟨m1, hm1⟩ : ∃ m1, m1 = m.setPc 0 (a + s.pc + 1) := ⟨_, rfl⟩
  rw [← hm1] at p1 p2 p3 ⊢
  have hft1 : m1.faults = 0 := by rw [p2]; exact h.ft
  have htm1 : tms m1 = tms m := by rw [hm1]; rfl
  have hok1 : HokL m1.cells := by rw [hm1]; exact h.hok
  have hcl1 : m1.cells = m.cells := by rw [hm1]; rfl
  have hmk1 : m1.marks = m.marks := by rw [hm1]; rfl
  clear hm1
  have V1 : View a (s.at' (s.pc + 1)) (absM m1) := by
    rw [p1]; exact h.V.jmp (s.pc + 1)
  obtain ⟨l, l1, l2⟩ := hcov
  have hf : ∃ c ∈ m1.cells, c.here = false := free_cell (l := l) (fun x hx => l1 x (by rw [V1.here] at hx; exact hx)) (by rw [hcl1, h.len]; exact l2) hok1 (fun c hc => by
    have := h.tm c.times (by rw [← htm1]; exact List.mem_map.2 ⟨c, hc, rfl⟩)
    omega) p3.cells
  obtain ⟨na, n1, n2, n3, n4, n5, n6, n7⟩ := abs_alloc p3 (t := 0) (by omega) ip.A hf (fun v hv => by rw [htm1] at hv; exact h.tm v hv) (by omega) 0 0 to
  have n2' : s.here na = false := by rw [V1.here] at n2; exact n2
  have V3 := (V1.give (x := na) n2').set ip.A na
  rw [← n3] at V3
  refine ⟨na, n1, n2', n5, by rw [n4]; exact hft1, n6, hok_exec _ _ _ (fun v hv => ?_) hok1, by rw [n7, hcl1]; exact h.len, V3, ?_⟩
  · rw [htm1] at hv; exact (h.tm v hv).1
  · rw [o_exec_marks _ _ _ (by simp), hmk1]; exact h.ms
/-- Turns of the one thread. -/
def its : Nat → M → M
  | 0, m => m
  | k + 1, m => ((its k m).step 0).1
/-- Behind at most k turns, the thread stands there and sees this. -/
def At (code : List Instr) (m0 : M) (a : Nat) (s : S) (k : Nat) : Prop := k ≤ 1000000 ∧ ∃ i, i ≤ k ∧ Sm code a s (i + 1) (its i m0)
theorem At.mono (h : At code m0 a s k) {k' : Nat} (hk : k ≤ k') (hk' : k' ≤ 1000000) : At code m0 a s k' := by
  obtain ⟨_, i, i1, i2⟩ := h
  exact ⟨hk', i, by omega, i2⟩
theorem At.run1 (h : At code m0 a s k) (hB : InRow code a B) (e : S.ev1 B s = some s') (hk : k + 1 ≤ 1000000) : At code m0 a s' (k + 1) := by
  obtain ⟨_, i, i1, i2⟩ := h
  refine ⟨hk, i + 1, by omega, ?_⟩
  have := i2.step (by omega) hB e
  rw [show ((i : Int) + 1 + 1) = ((i + 1 : Nat) : Int) + 1 by omega] at this
  exact this
theorem At.run (hB : InRow code a B) : ∀ (n : Nat) {s s' : S} {k : Nat}, At code m0 a s k → S.evn B n s = some s' → k + n ≤ 1000000 → At code m0 a s' (k + n)
  | 0, s, s', k, h, e, _ => by cases e; exact h
  | n + 1, s, s', k, h, e, hk => by
    unfold S.evn at e
    cases h1 : S.ev1 B s with
    | none => rw [h1] at e; cases e
    | some s1 =>
      rw [h1] at e
      have := At.run hB n (h.run1 hB h1 (by omega)) e (by omega)
      rw [show k + (n + 1) = k + 1 + n by omega]; exact this
theorem At.alloc (h : At code m0 a s k) (hB : InRow code a B) {xa : Int} {to : List UInt8} (hx : B[s.pc]? = some ⟨10, xa, 0, 0, to⟩) (hcov : ∃ l : List Int, (∀ x, s.here x = true → x ∈ l) ∧ l.length < 64) (hk : k + 1 ≤ 1000000) :
    ∃ na, 0 < na ∧ s.here na = false ∧ At code m0 a (((s.at' (s.pc + 1)).give na).set xa na) (k + 1) := by
  obtain ⟨_, i, i1, i2⟩ := h
  obtain ⟨na, n1, n2, n3⟩ := i2.alloc (by omega) (by omega) hB hx hcov
  refine ⟨na, n1, n2, hk, i + 1, by omega, ?_⟩
  rw [show ((i : Int) + 1 + 1) = ((i + 1 : Nat) : Int) + 1 by omega] at n3
  exact n3
/-- The end of a block is the beginning of the next. -/
theorem At.next (h : At code m0 a s k) {n : Nat} (hp : s.pc = n) : At code m0 (a + n) (s.at' 0) k := by
  obtain ⟨hk, i, i1, i2⟩ := h
  refine ⟨hk, i, i1, i2.W, i2.ft, i2.tm, i2.hok, i2.len, ⟨i2.V.here, i2.V.val, i2.V.reg, i2.V.r8, ?_, i2.V.bufs, i2.V.m4⟩, i2.ms⟩
  rw [i2.V.pc, hp]; rfl
/-- At the stop it stays. -/
theorem At.stop (h : At code m0 a s k) (hp : s.pc = 0) {x : Instr} (hc : code[a]? = some x) (h20 : x.op = 20) {n : Nat} (hn : k ≤ n) : (its n m0).done 0 = true ∧ (its n m0).faults = 0 ∧ (its n m0).marks = s.ms.map (fun v => ((0 : Int), v)) := by
  obtain ⟨_, i, i1, i2⟩ := h
  have hpc : ((its i m0).thr 0).pc = a := by have := i2.V.pc; rw [hp] at this; exact this
  have hcd : ((its i m0).thr 0).code[((its i m0).thr 0).pc]? = some x := by rw [i2.W.code 0 (by omega), hpc, hc]
  have hst : ((its i m0).step 0).1 = its i m0 := by
    unfold M.step
    rw [hcd]
    simp only
    rw [if_pos h20]
  have hall : ∀ d, its (i + d) m0 = its i m0 := by
    intro d
    induction d with
    | zero => rfl
    | succ d ih => show ((its (i + d) m0).step 0).1 = _; rw [ih, hst]
  have := hall (n - i)
  rw [show i + (n - i) = n by omega] at this
  rw [this]
  refine ⟨?_, i2.ft, i2.ms⟩
  unfold M.done
  rw [hcd]
  simp [h20]
end Qo
end
/- What a queue's threads do, counted: what is still to put, what stands in, what is taken and not told, what is told. -/
section
namespace Qu
def upd {α : Type} (f : Nat → α) (t : Nat) (v : α) : Nat → α := fun u => if u = t then v else f u
structure Gh where
  rem : Nat → List Int
  chv : List Int
  pend : Nat → List Int
  marks : List (Int × Int)
  lost : List Int
namespace Gh
end Gh
end Qu
end
/- The queue on the plain machine: code of ops, places, what stands at each place. -/
section
namespace Qu
open Qs Qg
inductive Op where
  | put (n : Int)
  | take
/-- Places: of an op that puts, or takes; what is still to put behind it. -/
inductive Pos where
  | fin
  | pu (o : Nat) (n : Int) (r : List Int)
  | ta (o : Nat) (r : List Int)
deriving DecidableEq
def Pos.go : Pos → Nat → Pos
  | .fin, _ => .fin
  | .pu _ n r, o => .pu o n r
  | .ta _ r, o => .ta o r
/-- What a thread has still to put. -/
def remOf : Pos → List Int
  | .fin => []
  | .pu o n r => if o ≤ 5 then n :: r else r
  | .ta _ r => r
end Qu
end
/- The queue on the plain machine: the invariant. -/
section
namespace Qu
open Qs Qg
/-- The cell a thread has in hand. -/
def own (rg : Nat → Int) : Pos → Option Int
  | .pu 1 _ _ => if rg 3 = 0 then none else some (rg 3)
  | .pu 2 _ _ => some (rg 3)
  | .pu 3 _ _ => some (rg 3)
  | .pu 4 _ _ => some (rg 3)
  | .pu 5 _ _ => some (rg 3)
  | .ta 12 _ => some (rg 0)
  | .ta 13 _ => some (rg 0)
  | .ta 14 _ => some (rg 3)
  | .ta 22 _ => if rg 3 = 0 then none else some (rg 3)
  | .ta 23 _ => if rg 3 = 0 then none else some (rg 3)
  | .ta 24 _ => if rg 3 = 0 then none else some (rg 3)
  | .ta 25 _ => if rg 3 = 0 then none else some (rg 3)
  | .ta 26 _ => if rg 3 = 0 then none else some (rg 3)
  | .ta 27 _ => some (rg 3)
  | .ta 28 _ => some (rg 3)
  | _ => none
/-- Who has the lock. -/
def Has (rg : Nat → Int) (bf : List En) : Pos → Prop
  | .ta 4 _ => rg 0 = 0
  | .ta 25 _ => bf ≠ []
  | .ta o _ => 6 ≤ o ∧ o ≤ 24
  | _ => False
section
variable (q : Int) (sm : Prop) (rg : Nat → Int) (bf : List En) (vl : Int → Nat → Int) (ch : List Int) (pend : List Int)
end
end Qu
end
/- The queue on the plain machine: steps that change a thread's own alone. -/
section
namespace Qu
open Qs Qg
variable {n t u : Nat} {q : Int} {sm : Prop} {s s' : A} {p : Nat → Pos} {ch : List Int} {G G' : Gh} {rg : Nat → Int} {x e : En} {r : List Int} {bf bf' : List En} {vl vl' : Int → Nat → Int} {pend : List Int} {P P' : Pos} {o o' : Nat}
theorem hasN (rg : Nat → Int) (bf : List En) (r : List Int) (h4 : o ≠ 4) (h5 : o ≠ 25) (h : o < 6 ∨ 24 < o) : ¬ Has rg bf (.ta o r) := by
  unfold Has
  split
  · rename_i h; cases h; omega
  · rename_i h; cases h; omega
  · rename_i h; cases h; omega
  · exact fun h => h
/-- Where an op begins. -/
def Start (r : List Int) (P : Pos) : Prop := remOf P = r ∧ (P = .fin ∨ (∃ v l, P = .pu 0 v l) ∨ ∃ l, P = .ta 0 l)
theorem Start.own (h : Start r P) (rg : Nat → Int) : own rg P = none := by
  rcases h.2 with h | ⟨v, l, h⟩ | ⟨l, h⟩ <;> (subst h; rfl)
theorem Start.has (h : Start r P) (rg : Nat → Int) (bf : List En) : ¬ Has rg bf P := by
  rcases h.2 with h | ⟨v, l, h⟩ | ⟨l, h⟩
  · subst h; exact fun h => h
  · subst h; exact fun h => h
  · subst h; exact hasN _ _ _ (by omega) (by omega) (by omega)
end Qu
end
/- The queue on the plain machine: lines of code and their places. -/
section
namespace Qu
open Qs Qg
/-- Names of labels: numbered, without a dot. -/
structure Lab (lab : Nat → List UInt8) : Prop where
  inj : ∀ i j, lab i = lab j → i = j
  dot : ∀ j, ¬ 46 ∈ lab j
theorem Lab.ne {lab : Nat → List UInt8} (h : Lab lab) (i j : Nat) (c : UInt8) : lab i ++ [46, c] ≠ lab j := fun g => h.dot j (by rw [← g]; simp)
section
variable (e p : List UInt8)
end
variable {lab : Nat → List UInt8}
end Qu
end
/- One thread alone: the beginning. -/
section
namespace Qo
open Qs Qg Qu
variable {code : List Instr} {tp : Int}
/-- The beginning. -/
theorem At.start {m : M} {o h : List Int} (W : WM 1 (fun _ => code) m) (ft : m.faults = 0) (tm : ∀ v ∈ tms m, 0 ≤ v ∧ v ≤ 1) (hok : HokL m.cells) (len : m.cells.length = 64) (hb : (absM m).buf 0 = []) (hr1 : (absM m).here 1 = true) (hr2 : (absM m).here 2 = true) (o4 : o.length = 4) (h4 : h.length = 4) (ho : ∀ w, (absM m).val 1 w = o.getD w 0) (hh : ∀ w, (absM m).val 2 w = h.getD w 0) (r : (m.thr 0).regs = [0, 0, 0, 0, 0, tp, 1, 2]) (pc : (m.thr 0).pc = 0) (hm : m.marks = []) :
    At code m 0 ⟨0, [0, 0, 0, 0, 0, tp, 1, 2], ⟨o, h, (absM m).val⟩, (absM m).here, []⟩ 0 := by
  refine ⟨by omega, 0, Nat.le_refl _, W, ft, tm, hok, len, ⟨fun x => ?_, fun x w => ?_, fun k => ?_, rfl, pc, fun e he => ?_, o4, h4⟩, hm⟩
  · show (absM m).here x = if x = 1 then true else if x = 2 then true else (absM m).here x
    by_cases e1 : x = 1
    · rw [if_pos e1, e1]; exact hr1
    · by_cases e2 : x = 2
      · rw [if_neg e1, if_pos e2, e2]; exact hr2
      · rw [if_neg e1, if_neg e2]
  · show lk1 ((absM m).buf 0) x w ((absM m).val x w) = if x = 1 then o.getD w 0 else if x = 2 then h.getD w 0 else (absM m).val x w
    rw [hb]
    show (absM m).val x w = _
    by_cases e1 : x = 1
    · rw [if_pos e1, e1]; exact ho w
    · by_cases e2 : x = 2
      · rw [if_neg e1, if_pos e2, e2]; exact hh w
      · rw [if_neg e1, if_neg e2]
  · show (m.thr 0).regs.getD k 0 = _
    rw [r]
  · have he' : e ∈ (absM m).buf 0 := he
    rw [hb] at he'; cases he'
end Qo
end
