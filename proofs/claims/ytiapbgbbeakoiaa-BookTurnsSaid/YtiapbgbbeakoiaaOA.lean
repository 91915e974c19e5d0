/- Plain: the data and their order. By gen_b.py. -/
import Derived.Test.YtiapbgbbeakoiaaB1
namespace Go.Proofs.Ytiapbgbbeakoiaa.O
open Go.RowKit

structure Lc where
  acct : Int
  id : Int
  instr : Int
  qty : Int
  price : Int
deriving DecidableEq
instance : Inhabited Lc := ⟨⟨0, 0, 0, 0, 0⟩⟩

def Lc.cells (x : Lc) : List Value := [.int .i64 x.acct, .int .i64 x.id, .int .i64 x.instr, .int .i64 x.qty, .int .i64 x.price]
def Lc.val (x : Lc) : Value := .agg #[.int .i64 x.acct, .int .i64 x.id, .int .i64 x.instr, .int .i64 x.qty, .int .i64 x.price]
def lcs (l : List Lc) : List Value := l.flatMap Lc.cells

/-- Whose it is. -/
def Lc.is (x : Lc) (a i : Int) : Bool := decide (x.acct = a ∧ x.id = i)
theorem lcs_append (a b : List Lc) : lcs (a ++ b) = lcs a ++ lcs b := List.flatMap_append
theorem lcs_len (l : List Lc) : (lcs l).length = l.length * 5 := by
  induction l with
  | nil => rfl
  | cons a l ih => simp only [lcs, List.flatMap_cons, List.length_append, List.length_cons] at ih ⊢; rw [ih]; simp [Lc.cells]; omega
theorem lcs_at (l : List Lc) (k : Nat) (hk : k < l.length) (j : Nat) (hj : j < 5) : (lcs l)[k * 5 + j]? = (l[k]).cells[j]? := by
  induction l generalizing k with
  | nil => simp at hk
  | cons a l ih =>
    have e : lcs (a :: l) = a.cells ++ lcs l := rfl
    rw [e]
    rcases k with _ | k
    · rw [List.getElem?_append_left (by simp [Lc.cells]; omega)]; simp
    · rw [List.getElem?_append_right (by simp [Lc.cells]; omega), show (k + 1) * 5 + j - a.cells.length = k * 5 + j by simp [Lc.cells]; omega, ih k (by simpa using hk)]; simp
theorem cells_one (x : Lc) : ∀ u ∈ x.cells, u.oneCell' = true := by
  intro u hu
  simp [Lc.cells] at hu
  rcases hu with rfl | rfl | rfl | rfl | rfl <;> rfl
theorem lcs_one (l : List Lc) : ∀ u ∈ lcs l, u.oneCell' = true := by
  intro u hu
  obtain ⟨x, _, hx⟩ := List.mem_flatMap.1 hu
  exact cells_one x u hx

theorem rd_loc {w : World} {B n : Nat} {A : Option Addr} {l : List Lc} (h : Rd w B 5 A n (lcs l)) {k : Nat} (hk : k < l.length) :
    ∃ a, A = some a ∧ a.block < B ∧ w.cell? (a.add (k * 5)) = some (.int .i64 (l[k]).acct) ∧ w.cell? ⟨(a.add (k * 5)).block, (a.add (k * 5)).off + 1, none⟩ = some (.int .i64 (l[k]).id) ∧ w.cell? ⟨(a.add (k * 5)).block, (a.add (k * 5)).off + 2, none⟩ = some (.int .i64 (l[k]).instr) ∧ w.cell? ⟨(a.add (k * 5)).block, (a.add (k * 5)).off + 3, none⟩ = some (.int .i64 (l[k]).qty) ∧ w.cell? ⟨(a.add (k * 5)).block, (a.add (k * 5)).off + 4, none⟩ = some (.int .i64 (l[k]).price) := by
  have sp : ∀ (a : Addr) (j : Nat), a.add (k * 5 + (j + 1)) = ⟨(a.add (k * 5)).block, (a.add (k * 5)).off + (j + 1), none⟩ := fun a j => by
    rw [← add_add']; simp [Addr.add]
  obtain ⟨a, hA, hb, h0⟩ := h.cell ((lcs_at l k hk 0 (by omega)).trans rfl)
  obtain ⟨a1, hA1, _, h1⟩ := h.cell ((lcs_at l k hk 1 (by omega)).trans rfl)
  have e1 : a1 = a := Option.some.inj (hA1.symm.trans hA)
  rw [e1, sp] at h1
  obtain ⟨a2, hA2, _, h2⟩ := h.cell ((lcs_at l k hk 2 (by omega)).trans rfl)
  have e2 : a2 = a := Option.some.inj (hA2.symm.trans hA)
  rw [e2, sp] at h2
  obtain ⟨a3, hA3, _, h3⟩ := h.cell ((lcs_at l k hk 3 (by omega)).trans rfl)
  have e3 : a3 = a := Option.some.inj (hA3.symm.trans hA)
  rw [e3, sp] at h3
  obtain ⟨a4, hA4, _, h4⟩ := h.cell ((lcs_at l k hk 4 (by omega)).trans rfl)
  have e4 : a4 = a := Option.some.inj (hA4.symm.trans hA)
  rw [e4, sp] at h4
  exact ⟨_, hA, hb, h0, h1, h2, h3, h4⟩

/-! ### The order -/
def cmpL (a b : Lc) : Int := if cmpI a.acct b.acct ≠ 0 then cmpI a.acct b.acct else cmpI a.id b.id
theorem cmpL_lt {a b : Lc} : cmpL a b < 0 ↔ a.acct < b.acct ∨ (a.acct = b.acct ∧ a.id < b.id) := by
  unfold cmpL
  have h1 := @cmpI_lt a.acct b.acct
  have h2 := @cmpI_zero a.acct b.acct
  have h3 := @cmpI_lt a.id b.id
  split <;> omega
theorem cmpL_zero {a b : Lc} : cmpL a b = 0 ↔ a.acct = b.acct ∧ a.id = b.id := by
  unfold cmpL
  have h2 := @cmpI_zero a.acct b.acct
  have h3 := @cmpI_zero a.id b.id
  split <;> omega
theorem cmpL_trans {a b c : Lc} (h1 : cmpL a b < 0) (h2 : cmpL b c < 0) : cmpL a c < 0 := by
  rw [cmpL_lt] at *
  omega

/-- In their order, each once. -/
def Sorted (l : List Lc) : Prop := ∀ i j, i < j → j < l.length → cmpL (l.getD i default) (l.getD j default) < 0

def ordAt (l : List Lc) (j : Nat) : Bool := decide (j = 0 ∨ cmpL (l.getD (j - 1) default) (l.getD j default) < 0)
def tidyAt (l : List Lc) (j : Nat) : Bool := fitsQ (l.getD j default).qty && ordAt l j
def riseB (l : List Lc) : Bool := upto (ordAt l) l.length
def tidyB (l : List Lc) : Bool := upto (tidyAt l) l.length
theorem sorted_of (l : List Lc) (h : riseB l = true) : Sorted l := by
  have step : ∀ j, j + 1 < l.length → cmpL (l.getD j default) (l.getD (j + 1) default) < 0 := fun j hj => by
    have := (upto_iff _ _).1 h (j + 1) hj
    simp only [ordAt, decide_eq_true_eq] at this
    rcases this with h0 | h0
    · omega
    · simpa using h0
  intro i j hij
  induction j with
  | zero => omega
  | succ j ih =>
    intro hj
    by_cases he : i = j
    · subst he; exact step i hj
    · exact cmpL_trans (ih (by omega) (by omega)) (step j hj)

theorem rise_of (l : List Lc) (h : Sorted l) : riseB l = true := (upto_iff _ _).2 fun j hj => by
  unfold ordAt
  rw [decide_eq_true_eq]
  by_cases h0 : j = 0
  · exact .inl h0
  · exact .inr (h (j - 1) j (by omega) hj)
theorem tidy_iff (l : List Lc) : tidyB l = true ↔ riseB l = true ∧ ∀ j, j < l.length → fitsQ (l.getD j default).qty = true := by
  unfold tidyB riseB
  rw [upto_iff, upto_iff]
  constructor
  · intro h
    have h' := fun j hj => (Bool.and_eq_true_iff.1 (h j hj))
    exact ⟨fun j hj => (h' j hj).2, fun j hj => (h' j hj).1⟩
  · rintro ⟨h1, h2⟩ j hj
    exact Bool.and_eq_true_iff.2 ⟨h2 j hj, h1 j hj⟩

/-- The place of x among l, and whether it is there. -/
def place (l : List Lc) (x : Lc) : Nat := l.countP fun y => decide (cmpL y x < 0)
def thereB (l : List Lc) (x : Lc) : Bool := decide (place l x < l.length) && decide (cmpL (l.getD (place l x) default) x = 0)
theorem place_same {l : List Lc} {x y : Lc} (h1 : x.acct = y.acct) (h2 : x.id = y.id) : place l x = place l y ∧ thereB l x = thereB l y := by
  have e : ∀ z : Lc, cmpL z x = cmpL z y := fun z => by unfold cmpL; rw [h1, h2]
  have e1 : place l x = place l y := by unfold place; simp only [e]
  refine ⟨e1, ?_⟩
  unfold thereB
  rw [e1, e]

section
variable {l : List Lc} {x : Lc}
theorem place_eq {i : Nat} (hi : i ≤ l.length) (h0 : ∀ j, j < i → cmpL (l.getD j default) x < 0) (h1 : ∀ j, i ≤ j → j < l.length → ¬ cmpL (l.getD j default) x < 0) : place l x = i := by
  unfold place
  have e : (l.take i ++ l.drop i).countP (fun y => decide (cmpL y x < 0)) = i := by
    rw [List.countP_append]
    have a1 : (l.take i).countP (fun y => decide (cmpL y x < 0)) = i := by
      rw [List.countP_eq_length.2, List.length_take, Nat.min_eq_left hi]
      intro y hy
      obtain ⟨j, hj, rfl⟩ := List.mem_iff_getElem.1 hy
      rw [List.length_take] at hj
      have := h0 j (by omega)
      rw [getD_lt (by omega)] at this
      simpa using this
    have a2 : (l.drop i).countP (fun y => decide (cmpL y x < 0)) = 0 := by
      rw [List.countP_eq_zero]
      intro y hy
      obtain ⟨j, hj, rfl⟩ := List.mem_iff_getElem.1 hy
      rw [List.length_drop] at hj
      have := h1 (i + j) (by omega) (by omega)
      rw [getD_lt (by omega)] at this
      simpa using this
    omega
  rwa [List.take_append_drop] at e

theorem Sorted.low (h : Sorted l) {j k : Nat} (hjk : j ≤ k) (hk : k < l.length) (hx : cmpL (l.getD k default) x < 0) : cmpL (l.getD j default) x < 0 := by
  rcases Nat.lt_or_eq_of_le hjk with h1 | rfl
  · exact cmpL_trans (h j k h1 hk) hx
  · exact hx
theorem Sorted.high (h : Sorted l) {j k : Nat} (hjk : j ≤ k) (hk : k < l.length) (hx : ¬ cmpL (l.getD j default) x < 0) : ¬ cmpL (l.getD k default) x < 0 := fun hc => hx (h.low hjk hk hc)

/-- Where the place is. -/
theorem Sorted.place (h : Sorted l) (x : Lc) : Ytiapbgbbeakoiaa.O.place l x ≤ l.length ∧ (∀ j, j < Ytiapbgbbeakoiaa.O.place l x → cmpL (l.getD j default) x < 0) ∧ (∀ j, Ytiapbgbbeakoiaa.O.place l x ≤ j → j < l.length → ¬ cmpL (l.getD j default) x < 0) := by
  have ex : ∃ i, i ≤ l.length ∧ (∀ j, j < i → cmpL (l.getD j default) x < 0) ∧ (∀ j, i ≤ j → j < l.length → ¬ cmpL (l.getD j default) x < 0) := by
    suffices ∀ m, m ≤ l.length → (∀ j, j < m → cmpL (l.getD j default) x < 0) ∨ ∃ i, i < m ∧ (∀ j, j < i → cmpL (l.getD j default) x < 0) ∧ ¬ cmpL (l.getD i default) x < 0 by
      rcases this l.length (Nat.le_refl _) with h1 | ⟨i, hi, h1, h2⟩
      · exact ⟨l.length, Nat.le_refl _, h1, fun j h2 h3 => absurd h3 (by omega)⟩
      · exact ⟨i, by omega, h1, fun j h3 h4 => h.high h3 h4 h2⟩
    intro m
    induction m with
    | zero => exact fun _ => .inl fun j hj => absurd hj (by omega)
    | succ m ih =>
      intro hm
      rcases ih (by omega) with h1 | ⟨i, hi, h1, h2⟩
      · by_cases hc : cmpL (l.getD m default) x < 0
        · refine .inl fun j hj => ?_
          rcases Nat.lt_or_eq_of_le (Nat.lt_succ_iff.1 hj) with h3 | rfl
          · exact h1 j h3
          · exact hc
        · exact .inr ⟨m, by omega, h1, hc⟩
      · exact .inr ⟨i, by omega, h1, h2⟩
  obtain ⟨i, hi, h0, h1⟩ := ex
  rw [place_eq hi h0 h1]
  exact ⟨hi, h0, h1⟩

theorem key_cmp (x y : Lc) : y.is x.acct x.id = decide (cmpL y x = 0) := by
  unfold Lc.is
  exact decide_eq_decide.2 (cmpL_zero (a := y) (b := x)).symm
/-- The key stands at its place, or nowhere. -/
theorem Sorted.key (h : Sorted l) (x : Lc) {j : Nat} (hj : j < l.length) : (l.getD j default).is x.acct x.id = true ↔ (j = Ytiapbgbbeakoiaa.O.place l x ∧ thereB l x = true) := by
  obtain ⟨h1, h2, h3⟩ := h.place x
  rw [key_cmp, decide_eq_true_eq]
  constructor
  · intro hc
    have e1 : ¬ j < Ytiapbgbbeakoiaa.O.place l x := fun hl => by have := h2 j hl; omega
    have e2 : ¬ Ytiapbgbbeakoiaa.O.place l x < j := fun hl => by
      have s := h (Ytiapbgbbeakoiaa.O.place l x) j hl hj
      have n := h3 _ (Nat.le_refl _) (by omega)
      rw [cmpL_zero] at hc
      rw [cmpL_lt] at s n
      omega
    have e : j = Ytiapbgbbeakoiaa.O.place l x := by omega
    refine ⟨e, ?_⟩
    unfold thereB
    rw [← e]
    rw [decide_eq_true hj, decide_eq_true hc]
    rfl
  · rintro ⟨e, ht⟩
    unfold thereB at ht
    rw [← e] at ht
    simp only [Bool.and_eq_true, decide_eq_true_eq] at ht
    exact ht.2
theorem there_lt {x : Lc} (h : thereB l x = true) : Ytiapbgbbeakoiaa.O.place l x < l.length := by
  unfold thereB at h
  simp only [Bool.and_eq_true, decide_eq_true_eq] at h
  exact h.1
end

end Go.Proofs.Ytiapbgbbeakoiaa.O
