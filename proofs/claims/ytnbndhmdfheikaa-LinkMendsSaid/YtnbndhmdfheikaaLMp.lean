/- Plain laws of LinkMends: Rounds, one behind the other. -/
import Derived.Test.YtnbndhmdfheikaaLR
namespace Go.Proofs.Ytnbndhmdfheikaa
open Go.RowKit

/-- Behind so many Rounds. -/
structure Rounds (x : Lk) (n : Nat) (st : Lk) : Prop where
  inv : Inv st
  s0 : (st.e 0).sent.length = (x.e 0).sent.length
  s1 : (st.e 1).sent.length = (x.e 1).sent.length
  g0 : min (x.e 1).sent.length ((x.g 0).length + 64 * n) ≤ (st.g 0).length
  g1 : min (x.e 0).sent.length ((x.g 1).length + 64 * n) ≤ (st.g 1).length
  k0 : 1 ≤ n → (x.e 0).sent.length + 64 ≤ (x.g 1).length + 64 * n → (st.e 0).known = (x.e 0).sent.length
  k1 : 1 ≤ n → (x.e 1).sent.length + 64 ≤ (x.g 0).length + 64 * n → (st.e 1).known = (x.e 1).sent.length

theorem Inv.le0 {st : Lk} (h : Inv st) : (st.g 0).length ≤ (st.e 1).sent.length := h.1.half.pre.length_le
theorem Inv.le1 {st : Lk} (h : Inv st) : (st.g 1).length ≤ (st.e 0).sent.length := h.2.half.pre.length_le

theorem Rounds.start {x : Lk} (h : Inv x) : Rounds x 0 x :=
  ⟨h, rfl, rfl, by have := h.le0; omega, by have := h.le1; omega, fun h => by omega, fun h => by omega⟩

theorem Rounds.step {x st st' : Lk} {n : Nat} (h : Rounds x n st) (m : Mended st st') : Rounds x (n + 1) st' := by
  have a0 := h.inv.le0
  have a1 := h.inv.le1
  have e0 := h.s0
  have e1 := h.s1
  have f0 : (st'.e 0).sent.length = (st.e 0).sent.length := by rw [m.s0]
  have f1 : (st'.e 1).sent.length = (st.e 1).sent.length := by rw [m.s1]
  have b0 := h.g0
  have b1 := h.g1
  have c0 := m.g0
  have c1 := m.g1
  refine ⟨m.inv, by omega, by omega, by omega, by omega, fun _ hh => ?_, fun _ hh => ?_⟩
  · rw [m.k0 (by omega)]; omega
  · rw [m.k1 (by omega)]; omega

theorem openK_eq {x : Lk} (h : Inv x) : openK x = (((x.e 0).sent.length - (x.g 1).length + ((x.e 1).sent.length - (x.g 0).length) : Nat) : Int) := by
  have t0 := h.1.half.tk
  have t1 := h.2.half.tk
  have a0 := h.le0
  have a1 := h.le1
  unfold openK
  omega

/-- All is mended. -/
theorem Rounds.done {x st : Lk} {n : Nat} (hx : Inv x) (h : Rounds x n st) (hn : n = ((x.e 0).sent.length - (x.g 1).length + ((x.e 1).sent.length - (x.g 0).length)) / 64 + 2) :
    (st.g 0).length = (st.e 1).sent.length ∧ (st.g 1).length = (st.e 0).sent.length ∧ (st.e 0).known = (st.e 0).sent.length ∧ (st.e 1).known = (st.e 1).sent.length ∧ openK st = 0 := by
  have a0 := h.inv.le0
  have a1 := h.inv.le1
  have x0 := hx.le0
  have x1 := hx.le1
  have e0 := h.s0
  have e1 := h.s1
  have b0 := h.g0
  have b1 := h.g1
  have q0 := h.k0 (by omega) (by omega)
  have q1 := h.k1 (by omega) (by omega)
  have g0 : (st.g 0).length = (st.e 1).sent.length := by omega
  have g1 : (st.g 1).length = (st.e 0).sent.length := by omega
  refine ⟨g0, g1, by omega, by omega, ?_⟩
  rw [openK_eq h.inv]
  omega

end Go.Proofs.Ytnbndhmdfheikaa
