/- Walks of the small functions. By gen_c.py. -/
import Derived.Test.YtiapbgbbeakoiaaB2
namespace Go.Proofs.Ytiapbgbbeakoiaa
open Go.RowKit

def fitsN (q : Int) : Bool := decide (q ≠ 0 ∧ -1000000000 ≤ q ∧ q ≤ 1000000000)
theorem fits_any (q : Int) (w : World) : Calls Try.prog 46 #[.int .i64 q] w fun e w' => e = .returned (.bool (fitsN q)) ∧ w' = w := by
  obtain ⟨r, hr⟩ : ∃ r, r = fitsN q := ⟨_, rfl⟩
  rw [← hr]
  have HR := Lib.hid hr
  clear hr
  go_enter Try.func46, Try.ntmps46
  by_cases h0 : q ≠ 0
  rotate_left
  · have e : r = false := by rw [HR.out]; simp [fitsN]; omega
    subst e
    go_wp2
    go_ret
    exact ⟨rfl, rfl⟩
  have b0 : (q != 0) = true := by simpa using h0
  by_cases h1 : -1000000000 ≤ q
  rotate_left
  · have e : r = false := by rw [HR.out]; simp [fitsN]; omega
    subst e
    go_wp2
    go_ret
    exact ⟨rfl, rfl⟩
  by_cases h2 : q ≤ 1000000000
  rotate_left
  · have e : r = false := by rw [HR.out]; simp [fitsN]; omega
    subst e
    go_wp2
    go_ret
    exact ⟨rfl, rfl⟩
  have e : r = true := by rw [HR.out]; simp [fitsN, h0, h1, h2]
  subst e
  go_wp2
  go_ret
  exact ⟨rfl, rfl⟩

def tradesB (a n : Int) : Bool := decide (1 < a ∧ a < n)
theorem trades_any (a n : Int) (w : World) : Calls Try.prog 45 #[.int .i64 a, .int .i64 n] w fun e w' => e = .returned (.bool (tradesB a n)) ∧ w' = w := by
  obtain ⟨r, hr⟩ : ∃ r, r = tradesB a n := ⟨_, rfl⟩
  rw [← hr]
  have HR := Lib.hid hr
  clear hr
  go_enter Try.func45, Try.ntmps45
  by_cases h0 : 1 < a
  rotate_left
  · have e : r = false := by rw [HR.out]; simp [tradesB]; omega
    subst e
    go_wp2
    go_ret
    exact ⟨rfl, rfl⟩
  by_cases h1 : a < n
  rotate_left
  · have e : r = false := by rw [HR.out]; simp [tradesB]; omega
    subst e
    go_wp2
    go_ret
    exact ⟨rfl, rfl⟩
  have e : r = true := by rw [HR.out]; simp [tradesB, h0, h1]
  subst e
  go_wp2
  go_ret
  exact ⟨rfl, rfl⟩

theorem rfits_any (q : Int) (w : World) : Calls Try.prog 32 #[.int .i64 q] w fun e w' => e = .returned (.bool (fitsQ q)) ∧ w' = w := by
  obtain ⟨r, hr⟩ : ∃ r, r = fitsQ q := ⟨_, rfl⟩
  rw [← hr]
  have HR := Lib.hid hr
  clear hr
  go_enter Try.func32, Try.ntmps32
  by_cases h0 : -1000000000 ≤ q
  rotate_left
  · have e : r = false := by rw [HR.out]; simp [fitsQ]; omega
    subst e
    go_wp2
    go_ret
    exact ⟨rfl, rfl⟩
  by_cases h1 : q ≤ 1000000000
  rotate_left
  · have e : r = false := by rw [HR.out]; simp [fitsQ]; omega
    subst e
    go_wp2
    go_ret
    exact ⟨rfl, rfl⟩
  have e : r = true := by rw [HR.out]; simp [fitsQ, h0, h1]
  subst e
  go_wp2
  go_ret
  exact ⟨rfl, rfl⟩

def sizeI (q : Int) : Int := if IntKind.i64.wrap (-q) > q then IntKind.i64.wrap (-q) else q
theorem size_any (q : Int) (w : World) : Calls Try.prog 36 #[.int .i64 q] w fun e w' => e = .returned (.int .i64 (sizeI q)) ∧ w' = w := by
  obtain ⟨m, hm⟩ : ∃ m, IntKind.i64.wrap (-q) = m := ⟨_, rfl⟩
  unfold sizeI
  rw [hm]
  by_cases hq : m > q
  · rw [if_pos hq]
    go_enter Try.func36, Try.ntmps36
    go_wp2
    go_ret
    exact ⟨rfl, rfl⟩
  · rw [if_neg hq]
    go_enter Try.func36, Try.ntmps36
    go_wp2
    go_ret
    exact ⟨rfl, rfl⟩
theorem sizeI_ge (q : Int) : q ≤ sizeI q := by unfold sizeI; split <;> omega
theorem sizeI_of {q : Int} (h1 : -1000000000 ≤ q) (h2 : q ≤ 1000000000) : sizeI q = if q < 0 then -q else q := by
  unfold sizeI
  rw [IntWalk.i64_in _ (by omega)]
  split <;> split <;> omega

def absI (q : Int) : Int := if q < 0 then -q else q
theorem abs_any (q : Int) (w : World) (h1 : -1000000000 ≤ q) (h2 : q ≤ 1000000000) : Calls Try.prog 54 #[.int .i64 q] w fun e w' => e = .returned (.int .i64 (absI q)) ∧ w' = w := by
  have hw : IntKind.i64.wrap (-q) = -q := IntWalk.i64_in _ (by omega)
  go_enter Try.func54, Try.ntmps54
  by_cases h0 : q < 0
  · have e : absI q = -q := by unfold absI; rw [if_pos h0]
    rw [e]
    go_wp2
    go_ret
    exact ⟨rfl, rfl⟩
  · have e : absI q = q := by unfold absI; rw [if_neg h0]
    rw [e]
    go_wp2
    go_ret
    exact ⟨rfl, rfl⟩

end Go.Proofs.Ytiapbgbbeakoiaa
