/- Walks: Same, SameFrames, where the two are the same. -/
import Derived.Test.YtnbndhmdfheikaaW6
import Derived.Deep.QuietTactic
import Derived.BigQuiet
import Derived.Laws.StructEq
namespace Go.Proofs.Ytnbndhmdfheikaa
open Go.RowKit

set_option maxHeartbeats 1000000 in
theorem same_any (A B : Option Addr) (c d : Nat) (s : Sd) (w : World) (hn : s.sent.length ≤ maxLen) (ha : Rd w w.heap.size 1 A s.sent.length (s.sent.map Value.string)) (hb : Rd w w.heap.size 1 B s.sent.length (s.sent.map Value.string)) :
    Calls Try.prog 18 #[sideVal (.slice A s.sent.length c) s, sideVal (.slice B s.sent.length d) s] w fun e w' => e = .returned (.bool true) ∧ Below w.heap.size w w' := by
  obtain ⟨ss, tk, kn⟩ := s
  dsimp only at hn ha hb ⊢
  unfold maxLen at hn
  unfold sideVal
  obtain ⟨n, hl⟩ : ∃ n, n = ss.length := ⟨_, rfl⟩
  rw [← hl] at hn ha hb ⊢
  have HA := ((ha.alloc (Nat.le_refl _) (.cells #[.slice A n c, .int .i64 tk, .int .i64 kn] 33)).alloc (by simp) (.cells #[.slice B n d, .int .i64 tk, .int .i64 kn] 33))
  have HB := ((hb.alloc (Nat.le_refl _) (.cells #[.slice A n c, .int .i64 tk, .int .i64 kn] 33)).alloc (by simp) (.cells #[.slice B n d, .int .i64 tk, .int .i64 kn] 33))
  have HL := Lib.hid hl
  clear hl ha hb
  go_enter Try.func18, Try.ntmps18
  go_wp2
  go_loopw [30] (fun i wr => ∃ k : Nat, k ≤ n ∧ i = .int .i64 k ∧ ∃ m, wr = ((w.alloc (.cells #[.slice A n c, .int .i64 tk, .int .i64 kn] 33)).alloc (.cells #[.slice B n d, .int .i64 tk, .int .i64 kn] 33)).drewN m) (fun i _ => n - (intOf i).toNat)
  case atStart => exact ⟨0, Nat.zero_le _, rfl, 0, rfl⟩
  case round =>
    obtain ⟨k, hk, rfl, m, rfl⟩ := hrel
    by_cases hlt : k < n
    · have hlt' : k < ss.length := by have := HL.out; omega
      obtain ⟨a, rfl, _, ca⟩ := HA.cell (j := k) (u := .string (ss[k])) (by simp)
      obtain ⟨b, rfl, _, cb⟩ := HB.cell (j := k) (u := .string (ss[k])) (by simp)
      have i1 : (0 : Int) ≤ (k : Int) := by omega
      have i2 : (k : Int) < (n : Int) := by omega
      have hx : (ss[k].toList != ss[k].toList) = false := by simp
      go_wp2_with fail
      go_quiet (fail)
      go_wp2
      go_roundw
      case rel => exact ⟨k + 1, by omega, by go_num, _, rfl⟩
      case measure => simp [intOf]; omega
    · go_wp2
      go_ret
      exact ⟨rfl, below_drewN (((Below.refl _ w).alloc (Nat.le_refl _) _).alloc (by simp) _) _⟩

theorem frs_at (l : List Fr) (k : Nat) (hk : k < l.length) (j : Nat) (hj : j < 4) : (frs l)[k * 4 + j]? = (l[k]).cells[j]? := by
  induction l generalizing k with
  | nil => simp at hk
  | cons f l ih =>
    have hc : f.cells.length = 4 := rfl
    have e : frs (f :: l) = f.cells ++ frs l := by simp [frs]
    rw [e]
    cases k with
    | zero => simp [List.getElem?_append_left (show j < f.cells.length by omega)]
    | succ k =>
      rw [List.getElem?_append_right (by omega), hc, show (k + 1) * 4 + j - 4 = k * 4 + j by omega]
      simpa using ih k (by simpa using hk)

/-- The four cells of the frame k of a list. -/
theorem Rd.frame {w : World} {B n : Nat} {A : Option Addr} {l : List Fr} (h : Rd w B 4 A n (frs l)) {k : Nat} (hk : k < l.length) :
    ∃ a, A = some a ∧ a.block < B ∧ w.cell? (a.add (k * 4)) = some (.int .i64 (l[k]).kind) ∧ w.cell? ⟨(a.add (k * 4)).block, (a.add (k * 4)).off + 1, none⟩ = some (.int .i64 (l[k]).num) ∧ w.cell? ⟨(a.add (k * 4)).block, (a.add (k * 4)).off + 2, none⟩ = some (.int .i64 (l[k]).taken) ∧ w.cell? ⟨(a.add (k * 4)).block, (a.add (k * 4)).off + 3, none⟩ = some (.string (l[k]).body) := by
  have sp : ∀ (a : Addr) (j : Nat), a.add (k * 4 + (j + 1)) = ⟨(a.add (k * 4)).block, (a.add (k * 4)).off + (j + 1), none⟩ := fun a j => by
    rw [← add_add']; simp [Addr.add]
  obtain ⟨a, hA, hb, h0⟩ := h.cell ((frs_at l k hk 0 (by omega)).trans rfl)
  obtain ⟨a1, hA1, _, h1⟩ := h.cell ((frs_at l k hk 1 (by omega)).trans rfl)
  obtain ⟨a2, hA2, _, h2⟩ := h.cell ((frs_at l k hk 2 (by omega)).trans rfl)
  obtain ⟨a3, hA3, _, h3⟩ := h.cell ((frs_at l k hk 3 (by omega)).trans rfl)
  have e1 : a1 = a := Option.some.inj (hA1.symm.trans hA)
  have e2 : a2 = a := Option.some.inj (hA2.symm.trans hA)
  have e3 : a3 = a := Option.some.inj (hA3.symm.trans hA)
  subst e1 e2 e3
  rw [sp] at h1 h2 h3
  exact ⟨_, hA, hb, h0, h1, h2, h3⟩

theorem fields44 : Try.prog.underlying 44 = some (.struct (Try.prog.fieldsOf 44)) := by kernel_rfl

set_option maxHeartbeats 1000000 in
theorem sameFrames_any (A B : Option Addr) (n c d : Nat) (l : List Fr) (w : World) (hl : l.length = n) (hn : n ≤ maxLen) (ha : Rd w w.heap.size 4 A n (frs l)) (hb : Rd w w.heap.size 4 B n (frs l)) :
    Calls Try.prog 19 #[.slice A n c, .slice B n d] w fun e w' => e = .returned (.bool true) ∧ ∃ m, w' = w.drewN m := by
  unfold maxLen at hn
  have HL := Lib.hid hl
  clear hl
  go_enter Try.func19, Try.ntmps19
  go_wp2
  go_loopw [13] (fun i wr => ∃ k : Nat, k ≤ n ∧ i = .int .i64 k ∧ ∃ m, wr = w.drewN m) (fun i _ => n - (intOf i).toNat)
  case atStart => exact ⟨0, Nat.zero_le _, rfl, 0, rfl⟩
  case round =>
    obtain ⟨k, hk, rfl, m, rfl⟩ := hrel
    by_cases hlt : k < n
    · have hlt' : k < l.length := by have := HL.out; omega
      obtain ⟨a, rfl, _, a0, a1, a2, a3⟩ := ha.frame hlt'
      obtain ⟨b, rfl, _, b0, b1, b2, b3⟩ := hb.frame hlt'
      have i1 : (0 : Int) ≤ (k : Int) := by omega
      have i2 : (k : Int) < (n : Int) := by omega
      go_wp2_with fail
      go_quiet (fail)
      go_wp2
      go_roundw
      case rel => exact ⟨k + 1, by omega, by go_num, _, rfl⟩
      case measure => simp [intOf]; omega
    · go_wp2
      go_ret
      exact ⟨rfl, _, rfl⟩

end Go.Proofs.Ytnbndhmdfheikaa
