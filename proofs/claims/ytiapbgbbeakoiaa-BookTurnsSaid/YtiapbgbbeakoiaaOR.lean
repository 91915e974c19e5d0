/- Plain and memory: the document's loop that lays one in. By gen_r.py. -/
import Derived.Test.YtiapbgbbeakoiaaOX
import Derived.Test.YtiapbgbbeakoiaaOM
namespace Go.Proofs.Ytiapbgbbeakoiaa.O
open Go.RowKit

/-- Behind k elements: those before p, then mid, then the others (without the one at p, if it is there). -/
def outL (l : List Lc) (p : Nat) (th : Bool) (mid : List Lc) (k : Nat) : List Lc := if k ≤ p then l.take k else l.take p ++ (mid ++ (l.take k).drop (if th then p + 1 else p))

section
variable {l mid : List Lc} {p k : Nat} {th : Bool}
theorem outL_zero : outL l p th mid 0 = [] := by simp [outL]
theorem take_succ' (hk : k < l.length) : l.take (k + 1) = l.take k ++ [l.getD k default] := by
  rw [List.take_add_one, List.getElem?_eq_getElem hk, getD_lt hk]
  rfl
theorem outL_low (hk : k < l.length) (h : k < p) : outL l p th mid (k + 1) = outL l p th mid k ++ [l.getD k default] := by
  unfold outL
  rw [if_pos (by omega), if_pos (by omega), take_succ' hk]
theorem outL_at (h : th = true) (hk : p < l.length) : outL l p th mid (p + 1) = outL l p th mid p ++ mid := by
  subst h
  unfold outL
  rw [if_neg (by omega), if_pos (Nat.le_refl _), if_pos rfl, List.drop_of_length_le (by rw [List.length_take]; omega), List.append_nil]
theorem outL_not (h : th = false) (hk : p < l.length) : outL l p th mid (p + 1) = outL l p th mid p ++ mid ++ [l.getD p default] := by
  subst h
  unfold outL
  rw [if_neg (by omega), if_pos (Nat.le_refl _), if_neg (by simp), take_succ' hk, List.drop_left' (by rw [List.length_take]; omega), List.append_assoc]
theorem outL_high (hk : k < l.length) (h : p < k) : outL l p th mid (k + 1) = outL l p th mid k ++ [l.getD k default] := by
  have hd : (if th = true then p + 1 else p) ≤ (l.take k).length := by rw [List.length_take]; split <;> omega
  unfold outL
  rw [if_neg (show ¬ k + 1 ≤ p by omega), if_neg (show ¬ k ≤ p by omega), take_succ' hk, List.drop_append_of_le_length hd]
  simp only [List.append_assoc]
theorem outL_len (hm : mid.length ≤ 1) (hk : k ≤ l.length) : (outL l p th mid k).length ≤ k + 1 := by
  unfold outL
  split
  · rw [List.length_take]; omega
  · simp only [List.length_append, List.length_take, List.length_drop]
    split <;> omega
/-- At the end. -/
theorem outL_all (h : l.length ≤ p) : outL l p th mid l.length = l := by unfold outL; rw [if_pos h, List.take_length]
theorem outL_there (h : p < l.length) : outL l p true mid l.length = l.take p ++ (mid ++ l.drop (p + 1)) := by unfold outL; rw [if_neg (by omega), List.take_length, if_pos rfl]
theorem outL_new (h : p < l.length) : outL l p false mid l.length = l.take p ++ (mid ++ l.drop p) := by unfold outL; rw [if_neg (by omega), List.take_length, if_neg (by simp)]
end

theorem set_split {α : Type} (l : List α) {p : Nat} (hp : p < l.length) (y : α) : l.set p y = l.take p ++ ([y] ++ l.drop (p + 1)) := by
  rw [List.set_eq_take_append_cons_drop, if_pos hp]
  rfl

/-- Where one stands, by its place. -/
theorem Sorted.less {l : List Lc} (h : Sorted l) (a i : Int) {k : Nat} (hp : k < Ytiapbgbbeakoiaa.O.place l ⟨a, i, 0, 0, 0⟩) : (l.getD k default).acct < a ∨ ((l.getD k default).acct = a ∧ (l.getD k default).id < i) := by
  have := (h.place ⟨a, i, 0, 0, 0⟩).2.1 k hp
  rwa [cmpL_lt] at this
theorem Sorted.more {l : List Lc} (h : Sorted l) (a i : Int) {k : Nat} (hk : k < l.length) (hp : Ytiapbgbbeakoiaa.O.place l ⟨a, i, 0, 0, 0⟩ ≤ k) (hn : (l.getD k default).is a i = false) : a < (l.getD k default).acct ∨ ((l.getD k default).acct = a ∧ i < (l.getD k default).id) := by
  have h1 := (h.place ⟨a, i, 0, 0, 0⟩).2.2 k hp hk
  rw [cmpL_lt] at h1
  dsimp only at h1
  unfold Lc.is at hn
  have hn := of_decide_eq_false hn
  omega

/-- Behind k elements of the document's loop. -/
def BuildAt (V0 : World) (out : List Lc) (lv : Bool) (vo vl : Value) (wr : World) : Prop :=
  ∃ A c, vo = .slice A out.length c ∧ vl = .bool lv ∧ wr.ownsRow V0.heap.size 38 5 (.slice A out.length c) out.length (lcs out) ∧ Below V0.heap.size V0 wr

theorem own_app {w : World} {base c : Nat} {A : Option Addr} {out : List Lc} {y : Lc} (h : w.ownsRow base 38 5 (.slice A (out.length + 1) c) (out.length + 1) (lcs out ++ y.cells)) : w.ownsRow base 38 5 (.slice A (out ++ [y]).length c) (out ++ [y]).length (lcs (out ++ [y])) := by
  rw [← lcs_single, ← lcs_append] at h
  simpa using h
theorem own_ne_new {w : World} {base e size n c : Nat} {A : Option Addr} {xs : List Value} (h : w.ownsRow base e size (.slice A n c) n xs) : some w.heap.size ≠ (Value.slice A n c).ownBlock := by
  intro he
  have := (h.lt _ he.symm).2
  omega
/-- One more is appended. -/
theorem BuildAt.app {V0 wr w3 : World} {out : List Lc} {y : Lc} {A A1 : Option Addr} {c c1 : Nat} {lv : Bool} {o : Obj} (ho : wr.ownsRow V0.heap.size 38 5 (.slice A out.length c) out.length (lcs out)) (hb : Below V0.heap.size V0 wr)
    (h1 : w3.ownsRow V0.heap.size 38 5 (.slice A1 (out.length + 1) c1) (out.length + 1) (lcs out ++ y.cells)) (hg : (wr.alloc o).grownBy w3 (Value.slice A out.length c).ownBlock) {out' : List Lc} (he : out' = out ++ [y]) : BuildAt V0 out' lv (.slice A1 (out.length + 1) c1) (.bool lv) w3 := by
  subst he
  refine ⟨A1, c1, by simp, rfl, own_app h1, ?_⟩
  have := hb.size
  exact (hb.alloc this o).grown hg (by simp; omega) (fun b hb' => (ho.lt b hb').1)

end Go.Proofs.Ytiapbgbbeakoiaa.O
