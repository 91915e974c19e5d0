/- Plain law: the document's loop that lays a reservation. -/
import Derived.Test.YtboehkcpgmpjjaaE1
namespace Go.Proofs.Ytboehkcpgmpjjaa
open Go.RowKit

def midL (x : Lc) : List Lc := if x.qty = 0 then [] else [x]
/-- Behind k elements. -/
def outL (l : List Lc) (p : Nat) (th : Bool) (x : Lc) (k : Nat) : List Lc := if k ≤ p then l.take k else l.take p ++ (midL x ++ (l.take k).drop (if th then p + 1 else p))
def laidL (p : Nat) (x : Lc) (k : Nat) : Bool := if k ≤ p then decide (x.qty = 0) else true

section
variable {l : List Lc} {p k : Nat} {th : Bool} {x : Lc}
theorem outL_zero : outL l p th x 0 = [] := by simp [outL]
theorem take_succ' (hk : k < l.length) : l.take (k + 1) = l.take k ++ [l.getD k default] := by
  rw [List.take_add_one, List.getElem?_eq_getElem hk, getD_lt hk]
  rfl
theorem outL_low (hk : k < l.length) (h : k < p) : outL l p th x (k + 1) = outL l p th x k ++ [l.getD k default] := by
  unfold outL
  rw [if_pos (by omega), if_pos (by omega), take_succ' hk]
theorem laidL_low (h : k < p) : laidL p x (k + 1) = laidL p x k := by
  unfold laidL
  rw [if_pos (by omega), if_pos (by omega)]
theorem laidL_at : laidL p x p = decide (x.qty = 0) := by unfold laidL; rw [if_pos (Nat.le_refl _)]
theorem laidL_high (h : p < k) : laidL p x k = true := by unfold laidL; rw [if_neg (by omega)]
theorem outL_at (h : th = true) (hk : p < l.length) : outL l p th x (p + 1) = outL l p th x p ++ midL x := by
  subst h
  unfold outL
  rw [if_neg (by omega), if_pos (Nat.le_refl _), if_pos rfl, List.drop_of_length_le (by rw [List.length_take]; omega), List.append_nil]
theorem outL_not (h : th = false) (hk : p < l.length) : outL l p th x (p + 1) = outL l p th x p ++ midL x ++ [l.getD p default] := by
  subst h
  unfold outL
  rw [if_neg (by omega), if_pos (Nat.le_refl _), if_neg (by simp), take_succ' hk, List.drop_left' (by rw [List.length_take]; omega), List.append_assoc]
theorem outL_high (hk : k < l.length) (h : p < k) : outL l p th x (k + 1) = outL l p th x k ++ [l.getD k default] := by
  have hd : (if th = true then p + 1 else p) ≤ (l.take k).length := by rw [List.length_take]; split <;> omega
  unfold outL
  rw [if_neg (show ¬ k + 1 ≤ p by omega), if_neg (show ¬ k ≤ p by omega), take_succ' hk, List.drop_append_of_le_length hd]
  simp only [List.append_assoc]
theorem outL_end (hp : p ≤ l.length) (hth : th = true → p < l.length) : putL l p th x = outL l p th x l.length ++ (if laidL p x l.length = true then [] else [x]) := by
  unfold putL outL laidL
  by_cases h : l.length ≤ p
  · have e : p = l.length := by omega
    have ht : th = false := by
      cases th with
      | false => rfl
      | true => have := hth rfl; omega
    subst ht
    rw [if_pos h, if_pos h, e]
    by_cases hz : x.qty = 0
    · simp [hz]
    · simp [hz]
  · rw [if_neg h, if_neg h, if_pos rfl, List.append_nil, List.take_length]
    rfl
theorem midL_len : (midL x).length ≤ 1 := by unfold midL; split <;> simp
theorem outL_len (hk : k ≤ l.length) : (outL l p th x k).length ≤ k + 1 := by
  unfold outL
  have := @midL_len x
  split
  · rw [List.length_take]; omega
  · simp only [List.length_append, List.length_take, List.length_drop]
    split <;> omega
end
theorem Sorted.great {l : List Lc} (h : Sorted l) (a i q : Int) {k : Nat} (hk : k < l.length) (hn : keyB a i (l.getD k default) = false) : ¬ k < Ytboehkcpgmpjjaa.place l ⟨a, i, q⟩ ↔ ((l.getD k default).acct > a ∨ ((l.getD k default).acct = a ∧ (l.getD k default).instr > i)) := by
  obtain ⟨h1, h2, h3⟩ := h.place ⟨a, i, q⟩
  have hz : ¬ cmpL (l.getD k default) ⟨a, i, q⟩ = 0 := by
    rw [key_cmp a i q] at hn
    simpa using hn
  have hlt := @cmpL_lt (l.getD k default) ⟨a, i, q⟩
  have hze := @cmpL_zero (l.getD k default) ⟨a, i, q⟩
  dsimp only at hlt hze
  constructor
  · intro hp
    have := h3 k (by omega) hk
    omega
  · intro hg hp
    have := h2 k hp
    omega

end Go.Proofs.Ytboehkcpgmpjjaa
