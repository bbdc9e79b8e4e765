/- Texts that belong together, joined. -/

set_option linter.unusedVariables false
set_option linter.unusedSimpArgs false
set_option linter.unusedSectionVars false
/- The plain model of the reference machine of the seed 'quiescent' (chapters 1 to 4): cells, stores that wait, threads, turns. Plain data and functions; no program in sight. -/
section
namespace Qs

/-- An instruction: its op as a number (see opName), its three numbers, its label. -/
structure Instr where
  op : Nat
  A : Int
  B : Int
  C : Int
  to : List UInt8
deriving DecidableEq

structure Cell where
  words : List Int
  times : Int
  here : Bool
deriving DecidableEq

/-- A store that waits: the cell, its gen, the word, the value. -/
structure Wt where
  c : Int
  g : Int
  w : Int
  v : Int
deriving DecidableEq

structure Thr where
  code : List Instr
  regs : List Int
  pc : Nat
deriving DecidableEq

structure M where
  cells : List Cell
  waits : List (List Wt)
  T : List Thr
  marks : List (Int × Int)
  faults : Int
deriving DecidableEq

abbrev W32 : Int := 4294967296

def isWord (n : Int) : Bool := decide (0 ≤ n) && decide (n < W32)

def cellAt (l : List Cell) (c : Int) : Option Cell := if c < 0 then none else l[c.toNat]?

def hereIn (l : List Cell) (c g : Int) : Bool :=
  match cellAt l c with
  | some x => x.here && decide (g = x.times - 1)
  | none => false

/-- The cell and gen of a word that is none of 0. -/
def refOf (n : Int) : Option (Int × Int) :=
  if n = 0 then none else if isWord n then some ((n - 1) % 64, (n - 1) / 64) else none

/-- The word of a ref: 0 where there is none. -/
def wordOf (c g : Int) : Int :=
  if 0 ≤ c ∧ c < 64 ∧ 0 ≤ g ∧ g ≤ 67108864 ∧ isWord (g * 64 + c + 1) then g * 64 + c + 1 else 0

def setWord (l : List Cell) (c : Nat) (w : Nat) (v : Int) : List Cell :=
  l.modify c fun x => { x with words := x.words.set w v }

def getWord (l : List Cell) (c : Nat) (w : Nat) : Int := ((l[c]?).map fun x => x.words.getD w 0).getD 0

/-- What a thread reads: the last store that waits, else memory. -/
def look (ws : List Wt) (c g w : Int) (v : Int) : Int :=
  ws.foldl (fun v x => if x.c = c ∧ x.g = g ∧ x.w = w then x.v else v) v

/-- A drained store: the cells behind it, and whether its cell was gone. -/
def drain1 (l : List Cell) (x : Wt) : List Cell × Bool :=
  if hereIn l x.c x.g then (setWord l x.c.toNat x.w.toNat x.v, false) else (l, true)

def drainAll : List Cell → List Wt → List Cell × Nat
  | l, [] => (l, 0)
  | l, x :: r =>
    let a := drain1 l x
    let b := drainAll a.1 r
    (b.1, b.2 + (if a.2 then 1 else 0))

def M.waitsOf (m : M) (t : Nat) : List Wt := m.waits.getD t []

/-- Fence of a thread. -/
def M.fence (m : M) (t : Nat) : M :=
  let a := drainAll m.cells (m.waitsOf t)
  { m with cells := a.1, waits := m.waits.set t [], faults := m.faults + a.2 }

def M.force (m : M) : Nat → M
  | 0 => m
  | k + 1 => (m.force k).fence k

/-- Drain of a thread: the error's number (0: none; 5: nothing waits), a fault noted. -/
def M.drain (m : M) (t : Nat) : M × Int :=
  match m.waitsOf t with
  | [] => (m, 5)
  | x :: r =>
    let a := drain1 m.cells x
    ({ m with cells := a.1, waits := m.waits.set t r, faults := m.faults + (if a.2 then 1 else 0) }, 0)

/-- Where a label is set first. -/
def labelAt (to : List UInt8) : List Instr → Nat → Option Nat
  | [], _ => none
  | x :: r, i => if x.op = 17 ∧ x.to = to then some i else labelAt to r (i + 1)

def allocAt : List Cell → Nat → Option (Nat × Int)
  | [], _ => none
  | x :: r, i => if x.here then allocAt r (i + 1) else some (i, x.times)

def Thr.reg (h : Thr) (a : Int) : Int := h.regs.getD a.toNat 0

def M.thr (m : M) (t : Nat) : Thr := m.T.getD t ⟨[], [], 0⟩

def M.setReg (m : M) (t : Nat) (a : Int) (v : Int) : M :=
  { m with T := m.T.modify t fun h => { h with regs := h.regs.set a.toNat v } }

def M.setPc (m : M) (t : Nat) (p : Nat) : M :=
  { m with T := m.T.modify t fun h => { h with pc := p } }

/-- The cell that a word names, if it is there. -/
def M.names (m : M) (n : Int) : Option (Int × Int) :=
  match refOf n with
  | some (c, g) => if hereIn m.cells c g then some (c, g) else none
  | none => none

def M.fault (m : M) : M := { m with faults := m.faults + 1 }

def M.done (m : M) (t : Nat) : Bool :=
  match (m.thr t).code[(m.thr t).pc]? with
  | none => true
  | some x => x.op == 20

def M.jump (m : M) (t : Nat) (to : List UInt8) : M := m.setPc t ((labelAt to (m.thr t).code 0).getD 0)

def sum2 (op : Nat) (a b : Int) : Int :=
  match op with
  | 2 => if a + b ≥ W32 then a + b - W32 else a + b
  | 3 => if a - b < 0 then a - b + W32 else a - b
  | 4 => ((a.toNat &&& b.toNat : Nat) : Int)
  | _ => ((a.toNat ^^^ b.toNat : Nat) : Int)

/-- An instruction of a thread whose place is beyond it already. -/
def M.exec (m : M) (t : Nat) (x : Instr) : M :=
  let h := m.thr t
  match x.op with
  | 0 => m.setReg t x.A x.B
  | 1 => m.setReg t x.A (h.reg x.B)
  | 2 => m.setReg t x.A (sum2 2 (h.reg x.B) (h.reg x.C))
  | 3 => m.setReg t x.A (sum2 3 (h.reg x.B) (h.reg x.C))
  | 4 => m.setReg t x.A (sum2 4 (h.reg x.B) (h.reg x.C))
  | 5 => m.setReg t x.A (sum2 5 (h.reg x.B) (h.reg x.C))
  | 6 => match m.names (h.reg x.B) with
    | some (c, g) => m.setReg t x.A (look (m.waitsOf t) c g x.C (getWord m.cells c.toNat x.C.toNat))
    | none => m.fault.setReg t x.A 0
  | 7 => match m.names (h.reg x.A) with
    | some (c, g) =>
      let m1 := if (m.waitsOf t).length ≥ 8 then (m.drain t).1 else m
      { m1 with waits := m1.waits.modify t fun l => l ++ [⟨c, g, x.C, h.reg x.B⟩] }
    | none => m.fault
  | 8 => match m.names (h.reg x.B) with
    | some (c, _) =>
      let m1 := m.fence t
      ({ m1 with cells := setWord m1.cells c.toNat x.C.toNat (h.reg x.A) } : M).setReg t x.A (getWord m1.cells c.toNat x.C.toNat)
    | none => m.fault.setReg t x.A 0
  | 9 => match m.names (h.reg x.A) with
    | some (c, _) =>
      let m1 := m.fence t
      let v := getWord m1.cells c.toNat x.C.toNat
      (if v = h.reg x.B then ({ m1 with cells := setWord m1.cells c.toNat x.C.toNat (h.reg (x.B + 1)) } : M) else m1).setReg t x.B v
    | none => m.fault.setReg t x.B 0
  | 10 => match allocAt m.cells 0 with
    | some (i, n) => ({ m with cells := m.cells.set i ⟨[0, 0, 0, 0], n + 1, true⟩ } : M).setReg t x.A (wordOf i n)
    | none => m.setReg t x.A 0
  | 11 => match m.names (h.reg x.A) with
    | some (c, _) =>
      let m1 := m.fence t
      { m1 with cells := m1.cells.modify c.toNat fun y => { y with here := false } }
    | none => m.fault
  | 12 => m.fence t
  | 13 => m.force m.T.length
  | 14 => if h.reg x.A = 0 then m.jump t x.to else m
  | 15 => if h.reg x.A = h.reg x.B then m.jump t x.to else m
  | 16 => m.jump t x.to
  | 18 => if m.marks.length < 500 then { m with marks := m.marks ++ [((t : Int), h.reg x.A)] } else m
  | 19 => if h.reg x.A = 0 then m.fault else m
  | _ => m

/-- A step of a thread (9: it is done). -/
def M.step (m : M) (t : Nat) : M × Int :=
  match (m.thr t).code[(m.thr t).pc]? with
  | none => (m, 9)
  | some x => if x.op = 20 then (m, 9) else ((m.setPc t ((m.thr t).pc + 1)).exec t x, 0)

/-- A turn by a number. -/
def M.turn (m : M) (n : Int) : M × Int :=
  let k := (n % (2 * (m.T.length : Int))).toNat
  if k < m.T.length then m.step k else m.drain (k - m.T.length)

/-- A run, and how many numbers had no error. -/
def M.run : M → List Int → M × Int
  | m, [] => (m, 0)
  | m, n :: r =>
    let a := m.turn n
    let b := a.1.run r
    (b.1, b.2 + (if a.2 = 0 then 1 else 0))

def M.rest (m : M) : Bool := (List.range m.T.length).all fun t => m.done t && (m.waitsOf t).isEmpty

def M.count (m : M) : Int := ((m.cells.filter (·.here)).length : Int)

end Qs
end
/- The code of a lock's customer (statements SpinSafe, SpinEnds), as plain data. -/
section
namespace Qs
/-- A label of round i: k, the digit, a or b, and its end. -/
def spLab (i : Nat) (s : Nat) : List UInt8 := [107, UInt8.ofNat (48 + i), 97, 46, UInt8.ofNat (97 + s)]
def spRound (a b : List UInt8) : List Instr :=
  [⟨17, 0, 0, 0, a⟩, ⟨0, 0, 0, 0, []⟩, ⟨0, 1, 1, 0, []⟩, ⟨9, 7, 0, 0, []⟩, ⟨14, 0, 0, 0, b⟩, ⟨16, 0, 0, 0, a⟩, ⟨17, 0, 0, 0, b⟩,
   ⟨6, 2, 7, 1, []⟩, ⟨0, 3, 1, 0, []⟩, ⟨5, 4, 2, 3, []⟩, ⟨19, 4, 0, 0, []⟩, ⟨7, 7, 3, 1, []⟩, ⟨6, 2, 7, 2, []⟩, ⟨2, 2, 2, 3, []⟩, ⟨7, 7, 2, 2, []⟩, ⟨0, 4, 0, 0, []⟩, ⟨7, 7, 4, 1, []⟩,
   ⟨0, 0, 0, 0, []⟩, ⟨7, 7, 0, 0, []⟩, ⟨12, 0, 0, 0, []⟩]
def spCode : Nat → List Instr
  | 0 => []
  | n + 1 => spCode n ++ spRound (spLab n 0) (spLab n 1)
/-- Turns by rising numbers from i on. -/
def M.goes (m : M) : Nat → Nat → M
  | 0, _ => m
  | k + 1, i => ((m.turn i).1).goes k (i + 1)
end Qs
end
/- A machine at rest stays as it is, whatever the number. -/
section
namespace Qs
theorem M.step_done {m : M} {t : Nat} (h : m.done t = true) : m.step t = (m, 9) := by
  unfold M.done at h
  unfold M.step
  cases e : (m.thr t).code[(m.thr t).pc]? with
  | none => rfl
  | some x => rw [e] at h; simp only [beq_iff_eq] at h; simp [h]
theorem M.drain_nil {m : M} {t : Nat} (h : m.waitsOf t = []) : m.drain t = (m, 5) := by
  unfold M.drain; rw [h]
theorem M.rest_iff {m : M} : m.rest = true ↔ ∀ t, t < m.T.length → m.done t = true ∧ m.waitsOf t = [] := by
  unfold M.rest
  simp [List.all_eq_true]
theorem M.rest_turn {m : M} (h : m.rest = true) (h0 : 0 < m.T.length) (n : Int) : (m.turn n).1 = m := by
  have hr := M.rest_iff.1 h
  have h1 := Int.emod_lt_of_pos n (show (0 : Int) < 2 * (m.T.length : Int) by omega)
  have h2 := Int.emod_nonneg n (show (2 * (m.T.length : Int)) ≠ 0 by omega)
  unfold M.turn
  simp only []
  split
  · rename_i hk; rw [M.step_done (hr _ hk).1]
  · rename_i hk
    rw [M.drain_nil (hr _ (by omega)).2]
theorem M.goes_add (a b i : Nat) (m : M) : m.goes (a + b) i = (m.goes a i).goes b (i + a) := by
  induction a generalizing m i with
  | zero => simp [M.goes]
  | succ a ih =>
    rw [show a + 1 + b = (a + b) + 1 from by omega]
    show ((m.turn i).1).goes (a + b) (i + 1) = (((m.turn i).1).goes a (i + 1)).goes b (i + (a + 1))
    rw [ih, show i + 1 + a = i + (a + 1) from by omega]
theorem M.goes_rest {m : M} (h : m.rest = true) (h0 : 0 < m.T.length) (k i : Nat) : m.goes k i = m := by
  induction k generalizing i with
  | zero => rfl
  | succ k ih =>
    show ((m.turn i).1).goes k (i + 1) = m
    rw [M.rest_turn h h0, ih]
end Qs
end
/- Rows of small numbers in one number: digits in a base B. -/
section
namespace Qd
/-- The digit at i. -/
def gt (B R i : Nat) : Nat := Nat.mod (Nat.div R (Nat.pow B i)) B
/-- The digit at i set. -/
def st (B R i v : Nat) : Nat := Nat.sub (Nat.add R (Nat.mul v (Nat.pow B i))) (Nat.mul (gt B R i) (Nat.pow B i))
def enc (B : Nat) : List Nat → Nat
  | [] => 0
  | x :: r => x + B * enc B r
theorem gt_eq (B R i : Nat) : gt B R i = R / B ^ i % B := rfl
theorem st_eq (B R i v : Nat) : st B R i v = R + v * B ^ i - (R / B ^ i % B) * B ^ i := rfl
theorem enc_tail {B x : Nat} {r : List Nat} (h : x < B) : enc B (x :: r) / B = enc B r := by
  show (x + B * enc B r) / B = enc B r
  rw [Nat.add_mul_div_left _ _ (by omega), Nat.div_eq_of_lt h, Nat.zero_add]
theorem enc_head {B x : Nat} {r : List Nat} (h : x < B) : enc B (x :: r) % B = x := by
  show (x + B * enc B r) % B = x
  rw [Nat.add_mul_mod_self_left, Nat.mod_eq_of_lt h]
theorem enc_div {B : Nat} : ∀ (l : List Nat) (i : Nat), (∀ x ∈ l, x < B) → enc B l / B ^ i = enc B (l.drop i)
  | l, 0, h => by simp
  | [], i + 1, h => by simp [enc]
  | x :: r, i + 1, h => by
    have hx := h x (List.mem_cons_self ..)
    rw [List.drop_succ_cons, ← enc_div r i (fun y hy => h y (List.mem_cons_of_mem _ hy)), Nat.pow_succ', ← Nat.div_div_eq_div_mul, enc_tail hx]
theorem enc_mod {B : Nat} (l : List Nat) (h : ∀ x ∈ l, x < B) : enc B l % B = l.getD 0 0 := by
  cases l with
  | nil => exact Nat.zero_mod _
  | cons x r => exact enc_head (h x (List.mem_cons_self ..))
theorem gt_enc {B : Nat} (l : List Nat) (i : Nat) (h : ∀ x ∈ l, x < B) : gt B (enc B l) i = l.getD i 0 := by
  rw [gt_eq, enc_div l i h, enc_mod _ (fun x hx => h x (List.mem_of_mem_drop hx))]
  simp [List.getD]
theorem enc_set {B : Nat} : ∀ (l : List Nat) (i v : Nat), i < l.length → enc B (l.set i v) + l.getD i 0 * B ^ i = enc B l + v * B ^ i
  | [], i, v, h => by simp at h
  | x :: r, 0, v, h => by
    show v + B * enc B r + x * 1 = x + B * enc B r + v * 1
    omega
  | x :: r, i + 1, v, h => by
    have ih := enc_set (B := B) r i v (by simpa using h)
    show x + B * enc B (r.set i v) + r.getD i 0 * B ^ (i + 1) = x + B * enc B r + v * B ^ (i + 1)
    rw [Nat.pow_succ']
    have e1 : r.getD i 0 * (B * B ^ i) = B * (r.getD i 0 * B ^ i) := by rw [Nat.mul_left_comm]
    have e2 : v * (B * B ^ i) = B * (v * B ^ i) := by rw [Nat.mul_left_comm]
    rw [e1, e2, Nat.add_assoc, ← Nat.mul_add, ih, Nat.mul_add, Nat.add_assoc]
theorem st_enc {B : Nat} (l : List Nat) (i v : Nat) (hi : i < l.length) (h : ∀ x ∈ l, x < B) : st B (enc B l) i v = enc B (l.set i v) := by
  have hg := gt_enc l i h
  rw [gt_eq] at hg
  rw [st_eq, hg]
  have := enc_set (B := B) l i v hi
  omega
theorem enc_snoc {B : Nat} : ∀ (l : List Nat) (x : Nat), enc B (l ++ [x]) = enc B l + x * B ^ l.length
  | [], x => by simp [enc]
  | y :: r, x => by
    show y + B * enc B (r ++ [x]) = y + B * enc B r + x * B ^ (r.length + 1)
    rw [enc_snoc r x, Nat.mul_add, Nat.pow_succ', Nat.add_assoc]
    congr 2
    rw [Nat.mul_left_comm]
end Qd
end
/- Rows of small numbers told by a function. -/
section
namespace Qd
def Arr (B n R : Nat) (f : Nat → Nat) : Prop := (∀ i, i < n → f i < B) ∧ R = enc B ((List.range n).map f)
variable {B n R : Nat} {f : Nat → Nat}
theorem Arr.lt (h : Arr B n R f) : ∀ x ∈ (List.range n).map f, x < B := by
  intro x hx
  obtain ⟨i, hi, rfl⟩ := List.mem_map.1 hx
  exact h.1 i (List.mem_range.1 hi)
theorem Arr.get (h : Arr B n R f) {i : Nat} (hi : i < n) : gt B R i = f i := by
  rw [h.2, gt_enc _ _ h.lt]
  simp [List.getD, hi]
theorem Arr.none (h : Arr B n R f) {i : Nat} (hi : n ≤ i) : gt B R i = 0 := by
  rw [h.2, gt_enc _ _ h.lt]
  simp [List.getD, Nat.not_lt.2 hi]
theorem Arr.congr (h : Arr B n R f) {g : Nat → Nat} (e : ∀ i, i < n → g i = f i) : Arr B n R g := by
  refine ⟨fun i hi => by rw [e i hi]; exact h.1 i hi, ?_⟩
  rw [h.2]
  congr 1
  apply List.map_congr_left
  intro i hi
  exact (e i (List.mem_range.1 hi)).symm
theorem map_set {n i v : Nat} {f : Nat → Nat} : ((List.range n).map f).set i v = (List.range n).map fun j => if j = i then v else f j := by
  apply List.ext_getElem?
  intro j
  simp only [List.getElem?_set, List.getElem?_map, List.length_map, List.length_range]
  by_cases e : i = j
  · subst e
    by_cases hi : i < n <;> simp [hi]
  · have e' : ¬ j = i := fun h => e h.symm
    by_cases hj : j < n <;> simp [e, e', hj]
theorem Arr.set (h : Arr B n R f) {i v : Nat} (hi : i < n) (hv : v < B) : Arr B n (st B R i v) fun j => if j = i then v else f j := by
  refine ⟨fun j hj => by dsimp only; split <;> first | exact hv | exact h.1 j hj, ?_⟩
  rw [← map_set, h.2]
  exact st_enc _ i v (by simpa using hi) h.lt
theorem Arr.put (h : Arr B n R f) {i v : Nat} (hi : i < n) (hv : v < B) {R' : Nat} (e : R' + f i * B ^ i = R + v * B ^ i) : Arr B n R' fun j => if j = i then v else f j := by
  have h1 := h.set hi hv
  have h2 := enc_set (B := B) ((List.range n).map f) i v (by simpa using hi)
  rw [← h.2] at h2
  have h3 : ((List.range n).map f).getD i 0 = f i := by simp [List.getD, hi]
  rw [h3, map_set, ← h1.2] at h2
  have : R' = st B R i v := by omega
  rw [this]; exact h1
theorem Arr.inc (h : Arr B n R f) {i : Nat} (hi : i < n) (hv : f i + 1 < B) : Arr B n (Nat.add R (Nat.pow B i)) fun j => if j = i then f i + 1 else f j :=
  h.put hi hv (by show R + B ^ i + f i * B ^ i = R + (f i + 1) * B ^ i; rw [Nat.add_mul]; omega)
theorem Arr.dec (h : Arr B n R f) {i : Nat} (hi : i < n) (hp : 0 < f i) : Arr B n (Nat.sub R (Nat.pow B i)) fun j => if j = i then f i - 1 else f j := by
  obtain ⟨k, hk⟩ : ∃ k, f i = k + 1 := ⟨f i - 1, by omega⟩
  have hb := h.1 i hi
  have h2 := enc_set (B := B) ((List.range n).map f) i k (by simpa using hi)
  have h3 : ((List.range n).map f).getD i 0 = f i := by simp [List.getD, hi]
  rw [← h.2, h3, hk, Nat.add_mul] at h2
  have : f i - 1 = k := by omega
  rw [this]
  refine h.put hi (by omega) ?_
  show R - B ^ i + f i * B ^ i = R + k * B ^ i
  rw [hk, Nat.add_mul]
  omega
end Qd
end
/- A machine in a few numbers. -/
section
namespace Qd
abbrev b32 : Nat := 4294967296
abbrev b128 : Nat := 340282366920938463463374607431768211456
abbrev b160 : Nat := 1461501637330902918203684832716283019655932542976
def b1024 : Nat := 2 ^ 1024
structure Q where
  R : Nat
  P : Nat
  C : Nat
  G : Nat
  H : Nat
  W : Nat
  N : Nat
  F : Nat
def Q.reg (q : Q) (t a : Nat) : Nat := gt b32 q.R (Nat.add (Nat.mul 8 t) a)
def Q.setReg (q : Q) (t a v : Nat) : Q := ⟨st b32 q.R (Nat.add (Nat.mul 8 t) a) v, q.P, q.C, q.G, q.H, q.W, q.N, q.F⟩
def Q.fault (q : Q) : Q := ⟨q.R, q.P, q.C, q.G, q.H, q.W, q.N, Nat.add q.F 1⟩
def cOf (n : Nat) : Nat := Nat.mod (Nat.sub n 1) 64
def gOf (n : Nat) : Nat := Nat.div (Nat.sub n 1) 64
def Q.here (q : Q) (c g : Nat) : Bool := cond (Nat.beq (gt b32 q.H c) 1) (Nat.beq (gt b32 q.G c) (Nat.add g 1)) false
def Q.names (q : Q) (n : Nat) : Bool := cond (Nat.beq n 0) false (q.here (cOf n) (gOf n))
def Q.len (q : Q) (t : Nat) : Nat := gt b32 q.N t
def Q.drain (q : Q) (t : Nat) : Q :=
  cond (Nat.beq (q.len t) 0) q
    (let w := gt b1024 q.W t
     let e := Nat.mod w b128
     let c := gt b32 e 0
     let W := st b1024 q.W t (Nat.div w b128)
     let N := Nat.sub q.N (Nat.pow b32 t)
     cond (q.here c (gt b32 e 1)) ⟨q.R, q.P, st b32 q.C (Nat.add (Nat.mul 4 c) (gt b32 e 2)) (gt b32 e 3), q.G, q.H, W, N, q.F⟩
       ⟨q.R, q.P, q.C, q.G, q.H, W, N, Nat.add q.F 1⟩)
def Q.drains (t : Nat) : Nat → Q → Q
  | 0, q => q
  | n + 1, q => Q.drains t n (q.drain t)
def Q.fence (q : Q) (t : Nat) : Q := cond (Nat.beq (q.len t) 0) q (Q.drains t (q.len t) q)
def Q.forces : Nat → Q → Q
  | 0, q => q
  | n + 1, q => (Q.forces n q).fence n
def lookQ (c g w : Nat) : Nat → Nat → Nat → Nat
  | 0, _, v => v
  | n + 1, u, v =>
    let e := Nat.mod u b128
    lookQ c g w n (Nat.div u b128) (cond (Nat.beq (gt b32 e 0) c) (cond (Nat.beq (gt b32 e 1) g) (cond (Nat.beq (gt b32 e 2) w) (gt b32 e 3) v) v) v)
def Q.word (q : Q) (c w : Nat) : Nat := gt b32 q.C (Nat.add (Nat.mul 4 c) w)
def Q.setWord (q : Q) (c w v : Nat) : Q := ⟨q.R, q.P, st b32 q.C (Nat.add (Nat.mul 4 c) w) v, q.G, q.H, q.W, q.N, q.F⟩
def Q.push (q : Q) (t e : Nat) : Q := ⟨q.R, q.P, q.C, q.G, q.H, Nat.add q.W (Nat.mul e (Nat.mul (Nat.pow b1024 t) (Nat.pow b128 (q.len t)))), Nat.add q.N (Nat.pow b32 t), q.F⟩
def freeC (H : Nat) : Nat → Nat → Nat
  | 0, c => 30
  | n + 1, c => cond (Nat.beq (gt b32 H c) 0) c (freeC H n (Nat.add c 1))
def Q.load (q : Q) (t A n w : Nat) : Q :=
  cond (q.names n) (q.setReg t A (lookQ (cOf n) (gOf n) w (q.len t) (gt b1024 q.W t) (q.word (cOf n) w))) (q.fault.setReg t A 0)
def Q.store (q : Q) (t n v w : Nat) : Q :=
  cond (q.names n)
    (let q1 := cond (Nat.ble 8 (q.len t)) (q.drain t) q
     q1.push t (Nat.add (cOf n) (Nat.add (Nat.mul (gOf n) b32) (Nat.add (Nat.mul w 18446744073709551616) (Nat.mul v 79228162514264337593543950336)))))
    q.fault
def Q.swap (q : Q) (t A n w : Nat) : Q :=
  cond (q.names n)
    (let q1 := q.fence t
     (q1.setWord (cOf n) w (q.reg t A)).setReg t A (q1.word (cOf n) w))
    (q.fault.setReg t A 0)
def Q.cas (q : Q) (t n B w : Nat) : Q :=
  cond (q.names n)
    (let q1 := q.fence t
     let v := q1.word (cOf n) w
     (cond (Nat.beq v (q.reg t B)) (q1.setWord (cOf n) w (q.reg t (Nat.add B 1))) q1).setReg t B v)
    (q.fault.setReg t B 0)
def Q.alloc (q : Q) (t A : Nat) : Q :=
  let c := freeC q.H 30 0
  cond (Nat.ble 30 c) (q.setReg t A 0)
    ((⟨q.R, q.P, st b32 (st b32 (st b32 (st b32 q.C (Nat.add (Nat.mul 4 c) 0) 0) (Nat.add (Nat.mul 4 c) 1) 0) (Nat.add (Nat.mul 4 c) 2) 0) (Nat.add (Nat.mul 4 c) 3) 0, Nat.add q.G (Nat.pow b32 c), Nat.add q.H (Nat.pow b32 c), q.W, q.N, q.F⟩ : Q).setReg t A (Nat.add (Nat.add (Nat.mul (gt b32 q.G c) 64) c) 1))
def Q.free (q : Q) (t n : Nat) : Q :=
  cond (q.names n)
    (let q1 := q.fence t
     ⟨q1.R, q1.P, q1.C, q1.G, Nat.sub q1.H (Nat.pow b32 (cOf n)), q1.W, q1.N, q1.F⟩)
    q.fault
def Q.jump (q : Q) (t g : Nat) : Q := ⟨q.R, st b32 q.P t g, q.C, q.G, q.H, q.W, q.N, q.F⟩
def add32 (a b : Nat) : Nat := Nat.mod (Nat.add a b) b32
def sub32 (a b : Nat) : Nat := Nat.mod (Nat.sub (Nat.add a b32) b) b32
/-- A step: L threads, the code K of thread t. -/
def Q.step (q : Q) (L t K : Nat) : Q :=
  let I := gt b160 K (gt b32 q.P t)
  let o := Nat.mod I b32
  let A := gt b32 I 1
  let B := gt b32 I 2
  let C := gt b32 I 3
  let q1 : Q := ⟨q.R, Nat.add q.P (Nat.pow b32 t), q.C, q.G, q.H, q.W, q.N, q.F⟩
  cond (Nat.ble o 10)
    (cond (Nat.ble o 5)
      (cond (Nat.ble o 2)
        (cond (Nat.beq o 0) q (cond (Nat.beq o 1) (q1.setReg t A B) (q1.setReg t A (q.reg t B))))
        (cond (Nat.beq o 3) (q1.setReg t A (add32 (q.reg t B) (q.reg t C))) (cond (Nat.beq o 4) (q1.setReg t A (sub32 (q.reg t B) (q.reg t C))) (q1.setReg t A (Nat.land (q.reg t B) (q.reg t C))))))
      (cond (Nat.ble o 7)
        (cond (Nat.beq o 6) (q1.setReg t A (Nat.xor (q.reg t B) (q.reg t C))) (q1.load t A (q.reg t B) C))
        (cond (Nat.beq o 8) (q1.store t (q.reg t A) (q.reg t B) C) (cond (Nat.beq o 9) (q1.swap t A (q.reg t B) C) (q1.cas t (q.reg t A) B C)))))
    (cond (Nat.ble o 15)
      (cond (Nat.ble o 12)
        (cond (Nat.beq o 11) (q1.alloc t A) (q1.free t (q.reg t A)))
        (cond (Nat.beq o 13) (q1.fence t) (cond (Nat.beq o 14) (Q.forces L q1) (cond (Nat.beq (q.reg t A) 0) (q.jump t (gt b32 I 4)) q1))))
      (cond (Nat.ble o 18)
        (cond (Nat.beq o 16) (cond (Nat.beq (q.reg t A) (q.reg t B)) (q.jump t (gt b32 I 4)) q1) (cond (Nat.beq o 17) (q.jump t (gt b32 I 4)) q1))
        (cond (Nat.beq o 20) (cond (Nat.beq (q.reg t A) 0) q1.fault q1) q)))
def Q.doneQ (q : Q) (t K : Nat) : Bool :=
  let o := Nat.mod (gt b160 K (gt b32 q.P t)) b32
  cond (Nat.beq o 0) true (Nat.beq o 21)
/-- A round: a step of each thread, then a drain of each. -/
def Q.steps (L : Nat) : List Nat → Nat → Q → Q
  | [], _, q => q
  | K :: r, t, q => Q.steps L r (Nat.add t 1) (q.step L t K)
def Q.drs : Nat → Nat → Q → Q
  | 0, _, q => q
  | n + 1, t, q => Q.drs n (Nat.add t 1) (q.drain t)
def Q.round (L : Nat) (Ks : List Nat) (q : Q) : Q := Q.drs L 0 (Q.steps L Ks 0 q)
def Q.dones : List Nat → Nat → Q → Bool
  | [], _, _ => true
  | K :: r, t, q => cond (q.doneQ t K) (Q.dones r (Nat.add t 1) q) false
def Q.restQ (Ks : List Nat) (q : Q) : Bool := cond (Nat.beq q.N 0) (Q.dones Ks 0 q) false
def cntQ (H : Nat) : Nat → Nat
  | 0 => 0
  | n + 1 => Nat.add (cntQ H n) (gt b32 H n)
def Q.go (L : Nat) (Ks : List Nat) (p : Q → Bool) : Nat → Q → Bool
  | 0, _ => false
  | n + 1, q => cond (q.restQ Ks) (p q) (Q.go L Ks p n (Q.round L Ks (Q.round L Ks q)))
end Qd
end
