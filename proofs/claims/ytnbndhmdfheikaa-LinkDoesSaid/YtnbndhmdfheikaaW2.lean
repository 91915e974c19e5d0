/- Walks: Valid of the program and of the document, Good of the document. -/
import Derived.Test.YtnbndhmdfheikaaW1
namespace Go.Proofs.Ytnbndhmdfheikaa
open Go.RowKit

theorem valid_off (k n t : Int) (b : ByteArray) (h : ¬ (0 ≤ n ∧ n ≤ 1099511627776 ∧ 0 ≤ t ∧ t ≤ 1099511627776)) : validB ⟨k, n, t, b⟩ = false := by
  simp only [validB, decide_eq_false h, Bool.false_and]
theorem valid_on (k n t : Int) (b : ByteArray) (h : 0 ≤ n ∧ n ≤ 1099511627776 ∧ 0 ≤ t ∧ t ≤ 1099511627776) :
    validB ⟨k, n, t, b⟩ = (if k = 1 then decide (1 ≤ n) && fitsB b else decide (b.size = 0) && ((decide (k = 2) && decide (1 ≤ n)) || decide (k = 3))) := by
  simp only [validB, decide_eq_true h, Bool.true_and]
theorem valid_bad {n t : Int} (hb : ¬ (0 ≤ n ∧ n ≤ 1099511627776 ∧ 0 ≤ t ∧ t ≤ 1099511627776)) :
    n < 0 ∨ (0 ≤ n ∧ 1099511627776 < n) ∨ (0 ≤ n ∧ n ≤ 1099511627776 ∧ t < 0) ∨ (0 ≤ n ∧ n ≤ 1099511627776 ∧ 0 ≤ t ∧ 1099511627776 < t) := by omega

theorem beq_ne {a b : Int} (h : a ≠ b) : (a == b) = false := by simpa using h

set_option maxHeartbeats 400000 in
theorem valid_any (f : Fr) (w : World) :
    Calls Try.prog 43 #[f.val] w fun e w' => e = .returned (.bool (validB f)) ∧ Below w.heap.size w w' := by
  obtain ⟨k, n, t, b⟩ := f
  unfold Fr.val
  by_cases hb : 0 ≤ n ∧ n ≤ 1099511627776 ∧ 0 ≤ t ∧ t ≤ 1099511627776
  · rw [valid_on k n t b hb]
    obtain ⟨h1, h2, h3, h4⟩ := hb
    have he := empty_iff b
    by_cases k1 : k = 1
    · subst k1
      rw [if_pos rfl]
      clear he
      by_cases h5 : 1 ≤ n
      · rw [decide_eq_true h5, Bool.true_and]
        go_enter Try.func43, Try.ntmps43
        go_wp2_with (go_at_call 40; refine (fits_any _ _).mono ?_; rintro e w' ⟨rfl, rfl⟩)
        go_ret
        exact ⟨rfl, (Below.refl _ _).alloc (Nat.le_refl _) _⟩
      · rw [decide_eq_false h5, Bool.false_and]
        go_enter Try.func43, Try.ntmps43
        go_wp2
        go_ret
        exact ⟨rfl, (Below.refl _ _).alloc (Nat.le_refl _) _⟩
    · rw [if_neg k1]
      have hk1 := beq_ne k1
      by_cases h0 : b.size = 0
      · have hz : b.toList = [] := he.2 h0
        rw [decide_eq_true h0, Bool.true_and]
        clear he h0
        by_cases k2 : k = 2
        · subst k2
          by_cases h5 : 1 ≤ n
          · rw [show ((decide ((2 : Int) = 2) && decide (1 ≤ n)) || decide ((2 : Int) = 3)) = true by simp [h5]]
            clear k1
            go_enter Try.func43, Try.ntmps43
            go_wp2
            go_ret
            exact ⟨rfl, (Below.refl _ _).alloc (Nat.le_refl _) _⟩
          · rw [show ((decide ((2 : Int) = 2) && decide (1 ≤ n)) || decide ((2 : Int) = 3)) = false by simp [h5]]
            clear k1
            go_enter Try.func43, Try.ntmps43
            go_wp2
            go_ret
            exact ⟨rfl, (Below.refl _ _).alloc (Nat.le_refl _) _⟩
        · have hk2 := beq_ne k2
          by_cases k3 : k = 3
          · subst k3
            rw [show ((decide ((3 : Int) = 2) && decide (1 ≤ n)) || decide ((3 : Int) = 3)) = true by simp]
            clear k1 k2
            go_enter Try.func43, Try.ntmps43
            go_wp2
            go_ret
            exact ⟨rfl, (Below.refl _ _).alloc (Nat.le_refl _) _⟩
          · have hk3 := beq_ne k3
            rw [show ((decide (k = 2) && decide (1 ≤ n)) || decide (k = 3)) = false by simp [k2, k3]]
            clear k1 k2 k3
            go_enter Try.func43, Try.ntmps43
            go_wp2
            go_ret
            exact ⟨rfl, (Below.refl _ _).alloc (Nat.le_refl _) _⟩
      · have hz : b.toList.isEmpty = false := by rw [List.isEmpty_eq_false_iff]; exact fun e => h0 (he.1 e)
        rw [decide_eq_false h0, Bool.false_and]
        clear he h0
        by_cases k2 : k = 2
        · subst k2
          clear k1
          by_cases h5 : 1 ≤ n
          all_goals
            go_enter Try.func43, Try.ntmps43
            go_wp2
            go_ret
            exact ⟨rfl, (Below.refl _ _).alloc (Nat.le_refl _) _⟩
        · have hk2 := beq_ne k2
          by_cases k3 : k = 3
          · subst k3
            clear k1 k2
            go_enter Try.func43, Try.ntmps43
            go_wp2
            go_ret
            exact ⟨rfl, (Below.refl _ _).alloc (Nat.le_refl _) _⟩
          · have hk3 := beq_ne k3
            clear k1 k2 k3
            go_enter Try.func43, Try.ntmps43
            go_wp2
            go_ret
            exact ⟨rfl, (Below.refl _ _).alloc (Nat.le_refl _) _⟩
  · rw [valid_off k n t b hb]
    have h := valid_bad hb
    clear hb
    rcases h with h | ⟨h1, h⟩ | ⟨h1, h2, h⟩ | ⟨h1, h2, h3, h⟩
    all_goals
      go_enter Try.func43, Try.ntmps43
      go_wp2
      go_ret
      exact ⟨rfl, (Below.refl _ _).alloc (Nat.le_refl _) _⟩

end Go.Proofs.Ytnbndhmdfheikaa
