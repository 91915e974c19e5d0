/- Plain definitions of chapter 14: reservations as data, their order, what Held, Supply and Reserve answer. -/
import Derived.Test.YtboehkcpgmpjjaaA0
namespace Go.Proofs.Ytboehkcpgmpjjaa
open Go.RowKit

/-- A reservation, as data. -/
structure Lc where
  acct : Int
  instr : Int
  qty : Int
deriving DecidableEq
instance : Inhabited Lc := ⟨⟨0, 0, 0⟩⟩

def Lc.cells (x : Lc) : List Value := [.int .i64 x.acct, .int .i64 x.instr, .int .i64 x.qty]
def Lc.val (x : Lc) : Value := .agg #[.int .i64 x.acct, .int .i64 x.instr, .int .i64 x.qty]
def lcs (l : List Lc) : List Value := l.flatMap Lc.cells
def ints (l : List Int) : List Value := l.map fun q => .int .i64 q

theorem lcs_append (a b : List Lc) : lcs (a ++ b) = lcs a ++ lcs b := List.flatMap_append
theorem lcs_len (l : List Lc) : (lcs l).length = l.length * 3 := by
  induction l with
  | nil => rfl
  | cons a l ih => simp only [lcs, List.flatMap_cons, List.length_append, List.length_cons] at ih ⊢; rw [ih]; simp [Lc.cells]; omega
theorem lcs_at (l : List Lc) (k : Nat) (hk : k < l.length) (j : Nat) (hj : j < 3) : (lcs l)[k * 3 + j]? = (l[k]).cells[j]? := by
  induction l generalizing k with
  | nil => simp at hk
  | cons a l ih =>
    have e : lcs (a :: l) = a.cells ++ lcs l := rfl
    rw [e]
    rcases k with _ | k
    · rw [List.getElem?_append_left (by simp [Lc.cells]; omega)]; simp
    · rw [List.getElem?_append_right (by simp [Lc.cells]; omega), show (k + 1) * 3 + j - a.cells.length = k * 3 + j by simp [Lc.cells]; omega, ih k (by simpa using hk)]; simp
theorem ints_at (l : List Int) (k : Nat) (hk : k < l.length) : (ints l)[k]? = some (.int .i64 l[k]) := by simp [ints, hk]
theorem ints_len (l : List Int) : (ints l).length = l.length := by simp [ints]
theorem ints_one (l : List Int) : ∀ u ∈ ints l, u.oneCell' = true := by
  intro u hu
  obtain ⟨_, _, rfl⟩ := List.mem_map.1 hu
  rfl
theorem cells_one (x : Lc) : ∀ u ∈ x.cells, u.oneCell' = true := by
  intro u hu
  simp [Lc.cells] at hu
  rcases hu with rfl | rfl | rfl <;> rfl
theorem lcs_one (l : List Lc) : ∀ u ∈ lcs l, u.oneCell' = true := by
  intro u hu
  obtain ⟨x, _, hx⟩ := List.mem_flatMap.1 hu
  exact cells_one x u hx

theorem Rd.int {w : World} {B n : Nat} {A : Option Addr} {l : List Int} (h : Rd w B 1 A n (ints l)) {k : Nat} (hk : k < l.length) : ∃ a, A = some a ∧ a.block < B ∧ w.cell? (a.add k) = some (.int .i64 l[k]) :=
  h.cell (ints_at l k hk)
theorem Rd.loc {w : World} {B n : Nat} {A : Option Addr} {l : List Lc} (h : Rd w B 3 A n (lcs l)) {k : Nat} (hk : k < l.length) :
    ∃ a, A = some a ∧ a.block < B ∧ w.cell? (a.add (k * 3)) = some (.int .i64 (l[k]).acct) ∧ w.cell? ⟨(a.add (k * 3)).block, (a.add (k * 3)).off + 1, none⟩ = some (.int .i64 (l[k]).instr) ∧ w.cell? ⟨(a.add (k * 3)).block, (a.add (k * 3)).off + 2, none⟩ = some (.int .i64 (l[k]).qty) := by
  have sp : ∀ (a : Addr) (j : Nat), a.add (k * 3 + (j + 1)) = ⟨(a.add (k * 3)).block, (a.add (k * 3)).off + (j + 1), none⟩ := fun a j => by
    rw [← add_add']; simp [Addr.add]
  obtain ⟨a, hA, hb, h0⟩ := h.cell ((lcs_at l k hk 0 (by omega)).trans rfl)
  obtain ⟨a1, hA1, _, h1⟩ := h.cell ((lcs_at l k hk 1 (by omega)).trans rfl)
  obtain ⟨a2, hA2, _, h2⟩ := h.cell ((lcs_at l k hk 2 (by omega)).trans rfl)
  have e1 : a1 = a := Option.some.inj (hA1.symm.trans hA)
  have e2 : a2 = a := Option.some.inj (hA2.symm.trans hA)
  subst e1 e2
  rw [sp] at h1 h2
  exact ⟨_, hA, hb, h0, h1, h2⟩

/-! ### The order -/
def cmpI (a b : Int) : Int := if a < b then -1 else if b < a then 1 else 0
def cmpL (a b : Lc) : Int := if cmpI a.acct b.acct ≠ 0 then cmpI a.acct b.acct else cmpI a.instr b.instr
theorem cmpI_lt {a b : Int} : cmpI a b < 0 ↔ a < b := by unfold cmpI; split <;> (try split) <;> omega
theorem cmpI_zero {a b : Int} : cmpI a b = 0 ↔ a = b := by unfold cmpI; split <;> (try split) <;> omega
theorem cmpI_range (a b : Int) : -1 ≤ cmpI a b ∧ cmpI a b ≤ 1 := by unfold cmpI; split <;> (try split) <;> omega
theorem cmpL_lt {a b : Lc} : cmpL a b < 0 ↔ a.acct < b.acct ∨ (a.acct = b.acct ∧ a.instr < b.instr) := by
  unfold cmpL
  have h1 := @cmpI_lt a.acct b.acct
  have h2 := @cmpI_zero a.acct b.acct
  have h3 := @cmpI_lt a.instr b.instr
  split <;> omega
theorem cmpL_zero {a b : Lc} : cmpL a b = 0 ↔ a.acct = b.acct ∧ a.instr = b.instr := by
  unfold cmpL
  have h2 := @cmpI_zero a.acct b.acct
  have h3 := @cmpI_zero a.instr b.instr
  split <;> omega
theorem cmpL_trans {a b c : Lc} (h1 : cmpL a b < 0) (h2 : cmpL b c < 0) : cmpL a c < 0 := by
  rw [cmpL_lt] at *
  omega

/-- In their order, each once. -/
def Sorted (l : List Lc) : Prop := ∀ i j, i < j → j < l.length → cmpL (l.getD i default) (l.getD j default) < 0

/-! ### What is said of one place, up to a place -/
def upto (f : Nat → Bool) (k : Nat) : Bool := (List.range k).all f
theorem upto_zero (f : Nat → Bool) : upto f 0 = true := rfl
theorem upto_succ (f : Nat → Bool) (k : Nat) : upto f (k + 1) = (upto f k && f k) := by simp [upto, List.range_succ]
theorem upto_iff (f : Nat → Bool) (k : Nat) : upto f k = true ↔ ∀ j, j < k → f j = true := by simp [upto]
theorem upto_false {f : Nat → Bool} {k n : Nat} (hk : k < n) (h : f k = false) : upto f n = false := by
  cases h' : upto f n with
  | false => rfl
  | true => rw [(upto_iff f n).1 h' k hk] at h; cases h

def fitsQ (q : Int) : Bool := decide (0 ≤ q ∧ q ≤ 1000000000)
def ordAt (l : List Lc) (j : Nat) : Bool := decide (j = 0 ∨ cmpL (l.getD (j - 1) default) (l.getD j default) < 0)
def tidyAt (l : List Lc) (j : Nat) : Bool := fitsQ (l.getD j default).qty && ordAt l j
def tidyB (av : List Int) (l : List Lc) : Bool := av.all fitsQ && upto (tidyAt l) l.length
def inAt (a n : Int) (l : List Lc) (j : Nat) : Bool := decide (2 ≤ (l.getD j default).acct ∧ (l.getD j default).acct < a ∧ 0 ≤ (l.getD j default).instr ∧ (l.getD j default).instr < n ∧ (l.getD j default).qty ≠ 0)
def goodB (av : List Int) (l : List Lc) (a n : Int) : Bool := decide ((av.length : Int) = n ∧ l.length ≤ 32) && (tidyB av l && upto (inAt a n l) l.length)

theorem sorted_of (l : List Lc) (h : upto (tidyAt l) l.length = true) : Sorted l := by
  have step : ∀ j, j + 1 < l.length → cmpL (l.getD j default) (l.getD (j + 1) default) < 0 := fun j hj => by
    have := (upto_iff _ _).1 h (j + 1) hj
    simp only [tidyAt, ordAt, Bool.and_eq_true, decide_eq_true_eq] at this
    rcases this.2 with h0 | h0
    · omega
    · simpa using h0
  intro i j hij
  induction j with
  | zero => omega
  | succ j ih =>
    intro hj
    by_cases he : i = j
    · subst he; exact step i hj
    · exact cmpL_trans (ih (by omega) (by omega)) (step j hj)

def keyB (a i : Int) (x : Lc) : Bool := decide (x.acct = a ∧ x.instr = i)
def heldL (l : List Lc) (a i : Int) : Int := match l.find? (keyB a i) with | some x => x.qty | none => 0

/-- What Supply answers. -/
def supplyS (av : List Int) (i q : Int) : List Int × Int :=
  if i < 0 ∨ (av.length : Int) ≤ i then ([], 32)
  else if q < -1000000000 ∨ 1000000000 < q ∨ av.getD i.toNat 0 + q < 0 ∨ 1000000000 < av.getD i.toNat 0 + q then ([], 36)
  else (av.set i.toNat (av.getD i.toNat 0 + q), 0)

/-- The place of x among l, and whether it is there. -/
def place (l : List Lc) (x : Lc) : Nat := l.countP fun y => decide (cmpL y x < 0)
def thereB (l : List Lc) (x : Lc) : Bool := decide (place l x < l.length) && decide (cmpL (l.getD (place l x) default) x = 0)
def putL (l : List Lc) (p : Nat) (there : Bool) (x : Lc) : List Lc := l.take p ++ ((if x.qty = 0 then [] else [x]) ++ l.drop (if there then p + 1 else p))

/-- What Reserve answers, of lists in their order. -/
def reserveS (av : List Int) (l : List Lc) (a i q : Int) : List Int × List Lc × Int :=
  if i < 0 ∨ (av.length : Int) ≤ i then ([], [], 32)
  else if q < -1000000000 ∨ 1000000000 < q ∨ heldL l a i + q < 0 ∨ 1000000000 < heldL l a i + q then ([], [], 36)
  else if av.getD i.toNat 0 < q then ([], [], 39)
  else if 1000000000 < av.getD i.toNat 0 - q then ([], [], 36)
  else if thereB l ⟨a, i, 0⟩ = false ∧ heldL l a i + q ≠ 0 ∧ 32 ≤ l.length then ([], [], 40)
  else (av.set i.toNat (av.getD i.toNat 0 - q), putL l (place l ⟨a, i, 0⟩) (thereB l ⟨a, i, 0⟩) ⟨a, i, heldL l a i + q⟩, 0)

end Go.Proofs.Ytboehkcpgmpjjaa
