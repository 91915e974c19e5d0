/- Plain laws of chapter 14. -/
import Derived.Test.YtboehkcpgmpjjaaA1
namespace Go.Proofs.Ytboehkcpgmpjjaa
open Go.RowKit

theorem getD_lt {α : Type} {l : List α} {d : α} {k : Nat} (h : k < l.length) : l.getD k d = l[k] := by simp [List.getD, h]
theorem split_at {α : Type} (l : List α) (d : α) {k : Nat} (h : k < l.length) : l = l.take k ++ (l.getD k d :: l.drop (k + 1)) := by
  rw [getD_lt h, ← List.drop_eq_getElem_cons h, List.take_append_drop]

theorem heldL_hit {l : List Lc} {a i : Int} {k : Nat} (hk : k < l.length) (h0 : ∀ j, j < k → keyB a i (l.getD j default) = false) (h1 : keyB a i (l.getD k default) = true) : heldL l a i = (l.getD k default).qty := by
  unfold heldL
  have : l.find? (keyB a i) = some (l.getD k default) := by
    rw [List.find?_eq_some_iff_append]
    refine ⟨h1, l.take k, l.drop (k + 1), split_at l default hk, fun x hx => ?_⟩
    obtain ⟨j, hj, rfl⟩ := List.mem_iff_getElem.1 hx
    rw [List.length_take] at hj
    have := h0 j (by omega)
    rw [getD_lt (by omega)] at this
    simp [this]
  rw [this]
theorem heldL_none {l : List Lc} {a i : Int} (h0 : ∀ j, j < l.length → keyB a i (l.getD j default) = false) : heldL l a i = 0 := by
  unfold heldL
  have : l.find? (keyB a i) = none := by
    rw [List.find?_eq_none]
    intro x hx
    obtain ⟨j, hj, rfl⟩ := List.mem_iff_getElem.1 hx
    have := h0 j hj
    rw [getD_lt hj] at this
    simp [this]
  rw [this]

section
variable {l : List Lc} {x : Lc}
theorem place_eq {i : Nat} (hi : i ≤ l.length) (h0 : ∀ j, j < i → cmpL (l.getD j default) x < 0) (h1 : ∀ j, i ≤ j → j < l.length → ¬ cmpL (l.getD j default) x < 0) : place l x = i := by
  unfold place
  have e : (l.take i ++ l.drop i).countP (fun y => decide (cmpL y x < 0)) = i := by
    rw [List.countP_append]
    have a1 : (l.take i).countP (fun y => decide (cmpL y x < 0)) = i := by
      rw [List.countP_eq_length.2, List.length_take, Nat.min_eq_left hi]
      intro y hy
      obtain ⟨j, hj, rfl⟩ := List.mem_iff_getElem.1 hy
      rw [List.length_take] at hj
      have := h0 j (by omega)
      rw [getD_lt (by omega)] at this
      simpa using this
    have a2 : (l.drop i).countP (fun y => decide (cmpL y x < 0)) = 0 := by
      rw [List.countP_eq_zero]
      intro y hy
      obtain ⟨j, hj, rfl⟩ := List.mem_iff_getElem.1 hy
      rw [List.length_drop] at hj
      have := h1 (i + j) (by omega) (by omega)
      rw [getD_lt (by omega)] at this
      simpa using this
    omega
  rwa [List.take_append_drop] at e

theorem Sorted.low (h : Sorted l) {j k : Nat} (hjk : j ≤ k) (hk : k < l.length) (hx : cmpL (l.getD k default) x < 0) : cmpL (l.getD j default) x < 0 := by
  rcases Nat.lt_or_eq_of_le hjk with h1 | rfl
  · exact cmpL_trans (h j k h1 hk) hx
  · exact hx
theorem Sorted.high (h : Sorted l) {j k : Nat} (hjk : j ≤ k) (hk : k < l.length) (hx : ¬ cmpL (l.getD j default) x < 0) : ¬ cmpL (l.getD k default) x < 0 := fun hc => hx (h.low hjk hk hc)

/-- Where the place is. -/
theorem Sorted.place (h : Sorted l) (x : Lc) : Ytboehkcpgmpjjaa.place l x ≤ l.length ∧ (∀ j, j < Ytboehkcpgmpjjaa.place l x → cmpL (l.getD j default) x < 0) ∧ (∀ j, Ytboehkcpgmpjjaa.place l x ≤ j → j < l.length → ¬ cmpL (l.getD j default) x < 0) := by
  have ex : ∃ i, i ≤ l.length ∧ (∀ j, j < i → cmpL (l.getD j default) x < 0) ∧ (∀ j, i ≤ j → j < l.length → ¬ cmpL (l.getD j default) x < 0) := by
    suffices ∀ m, m ≤ l.length → (∀ j, j < m → cmpL (l.getD j default) x < 0) ∨ ∃ i, i < m ∧ (∀ j, j < i → cmpL (l.getD j default) x < 0) ∧ ¬ cmpL (l.getD i default) x < 0 by
      rcases this l.length (Nat.le_refl _) with h1 | ⟨i, hi, h1, h2⟩
      · exact ⟨l.length, Nat.le_refl _, h1, fun j h2 h3 => absurd h3 (by omega)⟩
      · exact ⟨i, by omega, h1, fun j h3 h4 => h.high h3 h4 h2⟩
    intro m
    induction m with
    | zero => exact fun _ => .inl fun j hj => absurd hj (by omega)
    | succ m ih =>
      intro hm
      rcases ih (by omega) with h1 | ⟨i, hi, h1, h2⟩
      · by_cases hc : cmpL (l.getD m default) x < 0
        · refine .inl fun j hj => ?_
          rcases Nat.lt_or_eq_of_le (Nat.lt_succ_iff.1 hj) with h3 | rfl
          · exact h1 j h3
          · exact hc
        · exact .inr ⟨m, by omega, h1, hc⟩
      · exact .inr ⟨i, by omega, h1, h2⟩
  obtain ⟨i, hi, h0, h1⟩ := ex
  rw [place_eq hi h0 h1]
  exact ⟨hi, h0, h1⟩

theorem key_cmp (a i q : Int) (y : Lc) : keyB a i y = decide (cmpL y ⟨a, i, q⟩ = 0) := by
  unfold keyB
  exact decide_eq_decide.2 (cmpL_zero (a := y) (b := ⟨a, i, q⟩)).symm

/-- The key stands at its place, or nowhere. -/
theorem Sorted.key (h : Sorted l) (a i q : Int) {j : Nat} (hj : j < l.length) : keyB a i (l.getD j default) = true ↔ (j = Ytboehkcpgmpjjaa.place l ⟨a, i, q⟩ ∧ thereB l ⟨a, i, q⟩ = true) := by
  obtain ⟨h1, h2, h3⟩ := h.place ⟨a, i, q⟩
  rw [key_cmp a i q, decide_eq_true_eq]
  constructor
  · intro hc
    have e1 : ¬ j < Ytboehkcpgmpjjaa.place l ⟨a, i, q⟩ := fun hl => by have := h2 j hl; omega
    have e2 : ¬ Ytboehkcpgmpjjaa.place l ⟨a, i, q⟩ < j := fun hl => by
      have s := h (Ytboehkcpgmpjjaa.place l ⟨a, i, q⟩) j hl hj
      have n := h3 _ (Nat.le_refl _) (by omega)
      rw [cmpL_zero] at hc
      rw [cmpL_lt] at s n
      dsimp only at hc n
      omega
    have e : j = Ytboehkcpgmpjjaa.place l ⟨a, i, q⟩ := by omega
    refine ⟨e, ?_⟩
    unfold thereB
    rw [← e]
    rw [decide_eq_true hj, decide_eq_true hc]
    rfl
  · rintro ⟨e, ht⟩
    unfold thereB at ht
    rw [← e] at ht
    simp only [Bool.and_eq_true, decide_eq_true_eq] at ht
    exact ht.2
theorem Sorted.held (h : Sorted l) (a i q : Int) : heldL l a i = if thereB l ⟨a, i, q⟩ = true then (l.getD (Ytboehkcpgmpjjaa.place l ⟨a, i, q⟩) default).qty else 0 := by
  by_cases ht : thereB l ⟨a, i, q⟩ = true
  · rw [if_pos ht]
    have hp : Ytboehkcpgmpjjaa.place l ⟨a, i, q⟩ < l.length := by
      have := ht
      unfold thereB at this
      simp only [Bool.and_eq_true, decide_eq_true_eq] at this
      exact this.1
    refine heldL_hit hp (fun j hj => ?_) ((h.key a i q hp).2 ⟨rfl, ht⟩)
    cases hk : keyB a i (l.getD j default) with
    | false => rfl
    | true => have := ((h.key a i q (by omega)).1 hk).1; omega
  · rw [if_neg ht]
    refine heldL_none fun j hj => ?_
    cases hk : keyB a i (l.getD j default) with
    | false => rfl
    | true => exact absurd ((h.key a i q hj).1 hk).2 ht
end

theorem place_key (l : List Lc) (a i q r : Int) : place l ⟨a, i, q⟩ = place l ⟨a, i, r⟩ := rfl
theorem there_key (l : List Lc) (a i q r : Int) : thereB l ⟨a, i, q⟩ = thereB l ⟨a, i, r⟩ := rfl

end Go.Proofs.Ytboehkcpgmpjjaa
