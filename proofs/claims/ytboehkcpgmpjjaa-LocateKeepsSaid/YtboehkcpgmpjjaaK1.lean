/- LocateKeeps: rows that are written behind a mark L, and what lies before it. -/
import Derived.Test.YtboehkcpgmpjjaaE1
import Derived.Test.YtboehkcpgmpjjaaD1
namespace Go.Proofs.Ytboehkcpgmpjjaa
open Go.RowKit

/-- The three rows that are written. -/
structure KL (L : Nat) (V : World) (A : Option Addr) (n c : Nat) (B : Option Addr) (m d : Nat) (C : Option Addr) (k e : Nat) (W : World) : Prop where
  bl : Below L V W
  ra : Ow W L 3 1 A n c
  rb : Ow W L 3 1 B m d
  rc : Ow W L 39 3 C k e

section
variable {L n c m d k e : Nat} {V W W' : World} {A B C : Option Addr}
theorem Ow.keep {base t s n c : Nat} {A : Option Addr} (h : Ow W base t s A n c) (hk : ∀ b, b < W.heap.size → W'.heap[b]? = W.heap[b]?) : Ow W' base t s A n c := by
  obtain ⟨xs, h⟩ := h
  exact ⟨xs, own_keep h fun p hp => hk _ (own_lt h p hp).2⟩
theorem Ow.len {base t s n c : Nat} {A : Option Addr} (h : Ow W base t s A n c) : n ≤ 2 ^ 63 - 1 := by
  obtain ⟨xs, h⟩ := h
  obtain ⟨_, _, e, h1, h2⟩ := own_form h
  injection e with _ _ e
  subst e
  unfold maxLen at h2
  omega
theorem KL.set (h : KL L V A n c B m d C k e W) {g : Nat} (hg : L ≤ g) (i : Nat) (u : Value) : KL L V A n c B m d C k e (W.setCell ⟨g, i, none⟩ u) :=
  ⟨Below.setCell h.bl (p := ⟨g, i, none⟩) hg u, h.ra.set g i u, h.rb.set g i u, h.rc.set g i u⟩
theorem add_zero (g j : Nat) : (⟨g, 0, none⟩ : Addr).add j = ⟨g, j, none⟩ := by
  unfold Addr.add
  split
  · simp_all
  · simp
theorem KL.cellA (h : KL L V A n c B m d C k e W) {j : Nat} (hj : j < n) : ∃ a u, A = some a ∧ W.cell? (a.add j) = some u ∧ W.frozen? (a.add j) = false ∧ (a.add j).block < W.heap.size ∧ ∀ v, KL L V A n c B m d C k e (W.setCell (a.add j) v) := by
  obtain ⟨g, hA, h1, h2, ⟨u, hu⟩, hz⟩ := h.ra.cell (j := j) (by omega)
  refine ⟨_, u, hA, ?_, ?_, ?_, fun v => ?_⟩ <;> rw [add_zero]
  · exact hu
  · exact hz
  · exact h2
  · exact h.set h1 j v
theorem KL.cellB (h : KL L V A n c B m d C k e W) {j : Nat} (hj : j < m) : ∃ a u, B = some a ∧ W.cell? (a.add j) = some u ∧ W.frozen? (a.add j) = false ∧ (a.add j).block < W.heap.size ∧ ∀ v, KL L V A n c B m d C k e (W.setCell (a.add j) v) := by
  obtain ⟨g, hA, h1, h2, ⟨u, hu⟩, hz⟩ := h.rb.cell (j := j) (by omega)
  refine ⟨_, u, hA, ?_, ?_, ?_, fun v => ?_⟩ <;> rw [add_zero]
  · exact hu
  · exact hz
  · exact h2
  · exact h.set h1 j v
theorem KL.cellC (h : KL L V A n c B m d C k e W) {j : Nat} (hj : j < k) : ∃ a u0 u1 u2, C = some a ∧
    (W.cell? (a.add (j * 3)) = some u0 ∧ W.cell? ⟨(a.add (j * 3)).block, (a.add (j * 3)).off + 1, none⟩ = some u1 ∧ W.cell? ⟨(a.add (j * 3)).block, (a.add (j * 3)).off + 2, none⟩ = some u2) ∧
    (W.frozen? (a.add (j * 3)) = false ∧ W.frozen? ⟨(a.add (j * 3)).block, (a.add (j * 3)).off + 1, none⟩ = false ∧ W.frozen? ⟨(a.add (j * 3)).block, (a.add (j * 3)).off + 2, none⟩ = false) ∧
    ((∀ v0, (W.setCell (a.add (j * 3)) v0).cell? ⟨(a.add (j * 3)).block, (a.add (j * 3)).off + 1, none⟩ = some u1) ∧ (∀ v0, (W.setCell (a.add (j * 3)) v0).frozen? ⟨(a.add (j * 3)).block, (a.add (j * 3)).off + 1, none⟩ = false) ∧
     (∀ v0 v1, ((W.setCell (a.add (j * 3)) v0).setCell ⟨(a.add (j * 3)).block, (a.add (j * 3)).off + 1, none⟩ v1).cell? ⟨(a.add (j * 3)).block, (a.add (j * 3)).off + 2, none⟩ = some u2) ∧ (∀ v0 v1, ((W.setCell (a.add (j * 3)) v0).setCell ⟨(a.add (j * 3)).block, (a.add (j * 3)).off + 1, none⟩ v1).frozen? ⟨(a.add (j * 3)).block, (a.add (j * 3)).off + 2, none⟩ = false)) ∧
    (a.add (j * 3)).block < W.heap.size ∧ ∀ v0 v1 v2, KL L V A n c B m d C k e (((W.setCell (a.add (j * 3)) v0).setCell ⟨(a.add (j * 3)).block, (a.add (j * 3)).off + 1, none⟩ v1).setCell ⟨(a.add (j * 3)).block, (a.add (j * 3)).off + 2, none⟩ v2) := by
  obtain ⟨g, hA, h1, h2, ⟨u0, hu0⟩, hz0⟩ := h.rc.cell (j := j * 3) (by omega)
  obtain ⟨g1, hA1, _, _, ⟨u1, hu1⟩, hz1⟩ := h.rc.cell (j := j * 3 + 1) (by omega)
  obtain ⟨g2, hA2, _, _, ⟨u2, hu2⟩, hz2⟩ := h.rc.cell (j := j * 3 + 2) (by omega)
  have e1 : g1 = g := by have := hA1.symm.trans hA; injection this with this; injection this
  have e2 : g2 = g := by have := hA2.symm.trans hA; injection this with this; injection this
  subst e1 e2
  refine ⟨_, u0, u1, u2, hA, ?_, ?_, ?_, ?_, fun v0 v1 v2 => ?_⟩ <;> rw [add_zero]
  · exact ⟨hu0, hu1, hu2⟩
  · exact ⟨hz0, hz1, hz2⟩
  · dsimp only
    refine ⟨fun v0 => ?_, fun v0 => ?_, fun v0 v1 => ?_, fun v0 v1 => ?_⟩
    · rw [World.cell?_setCell_other _ _ _ _ (by simp)]; exact hu1
    · rw [World.frozen?_setCell]; exact hz1
    · rw [World.cell?_setCell_other _ _ _ _ (by simp), World.cell?_setCell_other _ _ _ _ (by simp)]; exact hu2
    · rw [World.frozen?_setCell, World.frozen?_setCell]; exact hz2
  · exact h2
  · exact ((h.set h1 _ v0).set h1 _ v1).set h1 _ v2
end

theorem Rd.front {w : World} {B k m : Nat} {A : Option Addr} {xs ys : List Value} (h : Rd w B k A m (xs ++ ys)) {n : Nat} (hx : xs.length = n * k) (hn : n ≤ m) : Rd w B k A n xs := by
  refine ⟨hx, fun hp => ?_⟩
  obtain ⟨a, e, hb, hc⟩ := h.2 (by omega)
  refine ⟨a, e, hb, fun j u hu => hc j u ?_⟩
  rw [List.getElem?_append_left (List.getElem?_eq_some_iff.1 hu).1]
  exact hu
theorem ints_append (a b : List Int) : ints (a ++ b) = ints a ++ ints b := by simp [ints]
theorem supply_len (av : List Int) (i q : Int) : (supplyS av i q).1.length ≤ av.length := by
  unfold supplyS
  repeat' split
  all_goals simp
theorem reserve_len (av : List Int) (l : List Lc) (a i q : Int) : (reserveS av l a i q).1.length ≤ av.length ∧ (reserveS av l a i q).2.1.length ≤ l.length + 1 := by
  unfold reserveS
  repeat' split
  all_goals try exact ⟨Nat.zero_le _, Nat.zero_le _⟩
  refine ⟨by simp, ?_⟩
  unfold putL
  simp only [List.length_append, List.length_take, List.length_drop]
  have : (if heldL l a i + q = 0 then ([] : List Lc) else [⟨a, i, heldL l a i + q⟩]).length ≤ 1 := by split <;> simp
  have hd : place l ⟨a, i, 0⟩ ≤ (if thereB l ⟨a, i, 0⟩ = true then place l ⟨a, i, 0⟩ + 1 else place l ⟨a, i, 0⟩) := by split <;> omega
  omega

end Go.Proofs.Ytboehkcpgmpjjaa
