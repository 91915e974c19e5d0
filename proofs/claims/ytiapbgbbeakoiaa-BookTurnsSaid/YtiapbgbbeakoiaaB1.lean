/- Plain, common. -/
import Derived.Test.YtiapbgbbeakoiaaB0
namespace Go.Proofs.Ytiapbgbbeakoiaa
open Go.RowKit

def cmpI (a b : Int) : Int := if a < b then -1 else if b < a then 1 else 0
theorem cmpI_lt {a b : Int} : cmpI a b < 0 ↔ a < b := by unfold cmpI; split <;> (try split) <;> omega
theorem cmpI_zero {a b : Int} : cmpI a b = 0 ↔ a = b := by unfold cmpI; split <;> (try split) <;> omega
theorem cmpI_range (a b : Int) : -1 ≤ cmpI a b ∧ cmpI a b ≤ 1 := by unfold cmpI; split <;> (try split) <;> omega

/-! ### What is said of one place, up to a place -/
def upto (f : Nat → Bool) (k : Nat) : Bool := (List.range k).all f
theorem upto_zero (f : Nat → Bool) : upto f 0 = true := rfl
theorem upto_succ (f : Nat → Bool) (k : Nat) : upto f (k + 1) = (upto f k && f k) := by simp [upto, List.range_succ]
theorem upto_iff (f : Nat → Bool) (k : Nat) : upto f k = true ↔ ∀ j, j < k → f j = true := by simp [upto]
theorem upto_false {f : Nat → Bool} {k n : Nat} (hk : k < n) (h : f k = false) : upto f n = false := by
  cases h' : upto f n with
  | false => rfl
  | true => rw [(upto_iff f n).1 h' k hk] at h; cases h

def fitsQ (q : Int) : Bool := decide (-1000000000 ≤ q ∧ q ≤ 1000000000)
theorem getD_lt {α : Type} {l : List α} {d : α} {k : Nat} (h : k < l.length) : l.getD k d = l[k] := by simp [List.getD, h]
theorem split_at {α : Type} (l : List α) (d : α) {k : Nat} (h : k < l.length) : l = l.take k ++ (l.getD k d :: l.drop (k + 1)) := by
  rw [getD_lt h, ← List.drop_eq_getElem_cons h, List.take_append_drop]

theorem add0 (b j k : Nat) : (⟨b, j, none⟩ : Addr).add k = ⟨b, j + k, none⟩ := by
  unfold Addr.add
  split
  · simp_all
  · rfl
/-- Cells laid over an array from o on. -/
def ow (cur : Array Value) (o : Nat) : List Value → Array Value
  | [] => cur
  | v :: r => ow (cur.setIfInBounds o v) (o + 1) r
theorem ow_size (vs : List Value) : ∀ (cur : Array Value) (o : Nat), (ow cur o vs).size = cur.size := by
  induction vs with
  | nil => exact fun _ _ => rfl
  | cons v r ih => exact fun cur o => by rw [ow, ih]; simp
theorem ow_list (vs : List Value) : ∀ (cur : Array Value) (o : Nat), o + vs.length ≤ cur.size → (ow cur o vs).toList = cur.toList.take o ++ (vs ++ cur.toList.drop (o + vs.length)) := by
  induction vs with
  | nil => intro cur o _; simp [ow]
  | cons v r ih =>
    intro cur o h
    simp only [List.length_cons] at h
    rw [ow, ih _ _ (by simp; omega)]
    simp only [Array.toList_setIfInBounds, List.length_cons]
    have e1 : (cur.toList.set o v).take (o + 1) = cur.toList.take o ++ [v] := by
      rw [List.take_set, List.take_add_one]
      rw [List.getElem?_eq_getElem (by simp; omega)]
      simp only [Option.toList_some]
      rw [List.set_append_right _ _ (by simp; omega)]
      simp
      rw [Nat.min_eq_left (by omega)]
      simp
    have e2 : (cur.toList.set o v).drop (o + 1 + r.length) = cur.toList.drop (o + (r.length + 1)) := by
      rw [List.drop_set_of_lt (by omega)]
      congr 1
      omega
    rw [e1, e2]
    simp
theorem Bk.cells {t : TypeId} {g : Nat} (vs : List Value) : ∀ {w : World} {cur : Array Value} (o : Nat), Bk w g t cur → Bk (w.setCells g o vs) g t (ow cur o vs) := by
  induction vs with
  | nil => exact fun _ h => h
  | cons v r ih => exact fun o h => by rw [World.setCells]; exact ih _ (h.set o v)
theorem Below.cells {B g : Nat} (hg : B ≤ g) (vs : List Value) : ∀ {w W : World} (o : Nat), Below B w W → Below B w (W.setCells g o vs) := by
  induction vs with
  | nil => exact fun _ h => h
  | cons v r ih => exact fun o h => by rw [World.setCells]; exact ih _ (Below.setCell h (p := ⟨g, o, none⟩) hg v)


end Go.Proofs.Ytiapbgbbeakoiaa
