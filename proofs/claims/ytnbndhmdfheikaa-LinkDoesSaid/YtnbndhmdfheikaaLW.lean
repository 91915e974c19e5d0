/- wakes: a gap that is mended. -/
import Derived.Test.YtnbndhmdfheikaaLI
namespace Go.Proofs.Ytnbndhmdfheikaa
open Go.RowKit

def bBytes : ByteArray := ⟨#[98]⟩
def wk1 : Lk := (sendK st0 0 aBytes).1
def wk2 : Lk := (sendK wk1 0 bBytes).1
def wk3 : Lk := (loseK wk2 1 0).1
def wk4 : Lk := (comeK wk3 1 0 false).1
theorem wk1_e : (sendK st0 0 aBytes).2 = 0 := by kernel_rfl
theorem wk2_e : (sendK wk1 0 bBytes).2 = 0 := by kernel_rfl
theorem wk3_e : (loseK wk2 1 0).2 = 0 := by kernel_rfl
theorem wk4_e : (comeK wk3 1 0 false).2 = 0 := by kernel_rfl
theorem wk4_g : wk4.g 1 = [] := by kernel_rfl
theorem wk_round0 : (roundS 20 wk4).map (fun s => s.g 1) = some [aBytes, bBytes] := by kernel_rfl
theorem wk_round : ∃ st9, roundS 20 wk4 = some st9 ∧ st9.g 1 = [aBytes, bBytes] := by
  have h := wk_round0
  cases hr : roundS 20 wk4 with
  | none => rw [hr] at h; cases h
  | some st9 => rw [hr] at h; exact ⟨st9, rfl, Option.some.inj h⟩
theorem wk_inv : Inv wk1 ∧ Inv wk2 ∧ Inv wk3 ∧ Inv wk4 := by
  have h1 := Inv.start.send 0 (.inl rfl) aBytes
  have h2 := h1.send 0 (.inl rfl) bBytes
  have h3 := h2.lose 1 (.inr rfl) 0
  exact ⟨h1, h2, h3, h3.come 1 (.inr rfl) 0 false⟩

theorem own_two {w : World} {base c : Nat} {A : Option Addr} {x y : Value} (h : w.ownsRow base 9 1 (.slice A 2 c) 2 [x, y]) : ∃ g, A = some ⟨g, 0, none⟩ ∧ w.cell? ⟨g, 0, none⟩ = some x ∧ w.cell? ⟨g, 1, none⟩ = some y := by
  obtain ⟨a, ha, _, hc⟩ := (Rd.of_own h).2 (by omega)
  rcases h.2 with ⟨hv, _⟩ | ⟨g, cap, cur, hv, _⟩
  · rw [ha] at hv
    injection hv with hv
    cases hv
  · rw [ha] at hv
    injection hv with hv
    injection hv with hv
    subst hv
    exact ⟨g, ha, hc 0 _ rfl, hc 1 _ rfl⟩

/-- Round of a link in any of its states. -/
theorem round_inv (L lb n : Nat) (st st9 : Lk) (R : Nat → Option Addr) (C : Nat → Nat) (W : World) (hl : LinkAt L lb st R C W) (hp : Inv st) (hall : roundS n st = some st9) (hLW : L ≤ W.heap.size) :
    Calls Try.prog 22 #[.pointer (some ⟨lb, 0, none⟩)] W fun e W' => e = .returned (.tuple #[]) ∧ LOut L lb R W st9 W' :=
  round_any Inv (fun _ h => h.fits) (fun _ h => h.come 0 (.inl rfl) 0 false) (fun _ h => h.come 1 (.inr rfl) 0 false) (fun _ h => h.tick 0 (.inl rfl)) (fun _ h => h.tick 1 (.inr rfl)) (fun _ _ _ h hh => h.all hh) L lb n st st9 R C W hl hp hall hLW
theorem Inv.round {n : Nat} {st st9 : Lk} (h : Inv st) (hr : roundS n st = some st9) : Inv st9 := by
  unfold roundS at hr
  cases h1 : allS n st with
  | none => rw [h1] at hr; cases hr
  | some s1 =>
    rw [h1] at hr
    exact (((h.all h1).tick 0 (.inl rfl)).tick 1 (.inr rfl)).all hr

set_option maxHeartbeats 8000000 in
set_option maxRecDepth 100000 in
theorem wakes_any (W : World) : Calls Try.prog 8 #[] W fun e W' => e = .returned (.bool true) ∧ Below W.heap.size W W' := by
  obtain ⟨st9, hst9, hg9⟩ := wk_round
  have i9 := wk_inv.2.2.2.round hst9
  have HNEW := Lib.hid (new_any W)
  have HS1 : Hid (∀ R C V, LinkAt W.heap.size W.heap.size st0 R C V → W.heap.size ≤ V.heap.size → Calls Try.prog 14 #[.pointer (some ⟨W.heap.size, 0, none⟩), .int .i64 0, .string aBytes] V fun e W' => e = .returned (.int .i64 0) ∧ LOut W.heap.size W.heap.size R V wk1 W') := fun R C V hl hL => by
    have h := send_0 _ _ st0 R C V aBytes hl Inv.start.fits.u1 hL Inv.start.fits.s0
    rwa [wk1_e] at h
  have HS2 : Hid (∀ R C V, LinkAt W.heap.size W.heap.size wk1 R C V → W.heap.size ≤ V.heap.size → Calls Try.prog 14 #[.pointer (some ⟨W.heap.size, 0, none⟩), .int .i64 0, .string bBytes] V fun e W' => e = .returned (.int .i64 0) ∧ LOut W.heap.size W.heap.size R V wk2 W') := fun R C V hl hL => by
    have h := send_0 _ _ wk1 R C V bBytes hl wk_inv.1.fits.u1 hL wk_inv.1.fits.s0
    rwa [wk2_e] at h
  have HS3 : Hid (∀ R C V, LinkAt W.heap.size W.heap.size wk2 R C V → Calls Try.prog 24 #[.pointer (some ⟨W.heap.size, 0, none⟩), .int .i64 1, .int .i64 0] V fun e W' => e = .returned (.int .i64 0) ∧ LOut W.heap.size W.heap.size R V wk3 W') := fun R C V hl => by
    have h := lose_1 _ _ wk2 R C V 0 hl wk_inv.2.1.fits.u1
    rwa [wk3_e] at h
  have HS4 : Hid (∀ R C V, LinkAt W.heap.size W.heap.size wk3 R C V → W.heap.size ≤ V.heap.size → Calls Try.prog 16 #[.pointer (some ⟨W.heap.size, 0, none⟩), .int .i64 1, .int .i64 0, .bool false] V fun e W' => e = .returned (.int .i64 0) ∧ LOut W.heap.size W.heap.size R V wk4 W') := fun R C V hl hL => by
    have f := wk_inv.2.2.1.fits
    have h := come_1_false _ _ wk3 R C V 0 hl f.u1 f.u0 f.g1 hL f.s1
    rwa [wk4_e] at h
  have HS5 : Hid (∀ R C V, LinkAt W.heap.size W.heap.size wk4 R C V → Calls Try.prog 11 #[.pointer (some ⟨W.heap.size, 0, none⟩), .int .i64 1] V fun e W' => (∃ A c, e = .returned (.slice A 0 c)) ∧ Below V.heap.size V W') := fun R C V hl => by
    have h := got_1 _ _ wk4 R C V hl (by rw [wk4_g]; simp)
    rw [wk4_g] at h
    exact h.mono fun e W' ⟨A, c, h1, _, _, _, h2⟩ => ⟨⟨A, c, h1⟩, h2⟩
  have HS6 : Hid (∀ R C V, LinkAt W.heap.size W.heap.size wk4 R C V → W.heap.size ≤ V.heap.size → Calls Try.prog 22 #[.pointer (some ⟨W.heap.size, 0, none⟩)] V fun e W' => e = .returned (.tuple #[]) ∧ LOut W.heap.size W.heap.size R V st9 W') := fun R C V hl hL => round_inv _ _ 20 wk4 st9 R C V hl wk_inv.2.2.2 hst9 hL
  have HS7 : Hid (∀ R C V, LinkAt W.heap.size W.heap.size st9 R C V → Calls Try.prog 11 #[.pointer (some ⟨W.heap.size, 0, none⟩), .int .i64 1] V fun e W' => ∃ a c, e = .returned (.slice (some ⟨a, 0, none⟩) 2 c) ∧ W'.cell? ⟨a, 0, none⟩ = some (.string aBytes) ∧ W'.cell? ⟨a, 1, none⟩ = some (.string bBytes) ∧ Below V.heap.size V W') := fun R C V hl => by
    have h := got_1 _ _ st9 R C V hl (by rw [hg9]; simp)
    rw [hg9] at h
    refine h.mono fun e W' ⟨A, c, h1, _, _, h3, h2⟩ => ?_
    obtain ⟨g, hA, q0, q1⟩ := own_two h3
    subst hA
    exact ⟨g, c, h1, q0, q1, h2⟩
  unfold aBytes at HS1 HS7
  unfold bBytes at HS2 HS7
  obtain ⟨B, hB⟩ : ∃ B, B = W.heap.size := ⟨_, rfl⟩
  rw [← hB] at HNEW HS1 HS2 HS3 HS4 HS5 HS6 HS7 ⊢
  have HBW : Hid (B = W.heap.size) := hB
  clear hB hst9 hg9 i9
  go_enter Try.func8, Try.ntmps8
  go_wp2_with fail
  refine HNEW.out.mono ?_
  rintro e w1 ⟨rfl, hl1, hb1⟩
  have HL1 := Lib.hid hl1
  have HB1 := Lib.hid hb1
  have z1 : B ≤ w1.heap.size := by rw [HBW.out]; exact hb1.size
  clear hl1 hb1
  go_wp2_with fail
  refine (HS1.out _ _ _ HL1.out z1).mono ?_
  rintro e w2 ⟨rfl, R2, C2, hl2, hk2⟩
  have HL2 := Lib.hid hl2
  have HB2 : Hid (Below B W w2) := by have hk := hk2.below HL1.out z1; have := HB1.out; exact this.trans hk
  have z2 : B ≤ w2.heap.size := Nat.le_trans z1 hk2.size
  clear hl2 hk2 HL1 HB1
  go_wp2_with fail
  refine (HS2.out _ _ _ HL2.out z2).mono ?_
  rintro e w3 ⟨rfl, R3, C3, hl3, hk3⟩
  have HL3 := Lib.hid hl3
  have HB3 : Hid (Below B W w3) := HB2.out.trans (hk3.below HL2.out z2)
  have z3 : B ≤ w3.heap.size := Nat.le_trans z2 hk3.size
  clear hl3 hk3 HL2 HB2 z1
  go_wp2_with fail
  refine (HS3.out _ _ _ HL3.out).mono ?_
  rintro e w4 ⟨rfl, R4, C4, hl4, hk4⟩
  have HL4 := Lib.hid hl4
  have HB4 : Hid (Below B W w4) := HB3.out.trans (hk4.below HL3.out z3)
  have z4 : B ≤ w4.heap.size := Nat.le_trans z3 hk4.size
  clear hl4 hk4 HL3 HB3 z2
  go_wp2_with fail
  refine (HS4.out _ _ _ HL4.out z4).mono ?_
  rintro e w5 ⟨rfl, R5, C5, hl5, hk5⟩
  have HL5 := Lib.hid hl5
  have HB5 : Hid (Below B W w5) := HB4.out.trans (hk5.below HL4.out z4)
  have z5 : B ≤ w5.heap.size := Nat.le_trans z4 hk5.size
  clear hl5 hk5 HL4 HB4 z3
  go_wp2_with fail
  refine (HS5.out _ _ _ HL5.out).mono ?_
  rintro e w6 ⟨⟨A6, c6, rfl⟩, hb6⟩
  have HL6 := Lib.hid (HL5.out.over hb6)
  have HB6 : Hid (Below B W w6) := HB5.out.trans (hb6.mono z5)
  have z6 : B ≤ w6.heap.size := Nat.le_trans z5 hb6.size
  clear hb6 HL5 HB5 z4
  go_wp2_with fail
  refine (HS6.out _ _ _ HL6.out z6).mono ?_
  rintro e w7 ⟨rfl, R7, C7, hl7, hk7⟩
  have HL7 := Lib.hid hl7
  have HB7 : Hid (Below B W w7) := HB6.out.trans (hk7.below HL6.out z6)
  have z7 : B ≤ w7.heap.size := Nat.le_trans z6 hk7.size
  clear hl7 hk7 HL6 HB6 z5
  go_wp2_with fail
  refine (HS7.out _ _ _ HL7.out).mono ?_
  rintro e w8 ⟨a8, c8, rfl, q0, q1, hb8⟩
  have HB8 : Hid (Below B W w8) := HB7.out.trans (hb8.mono z7)
  clear hb8
  go_wp2
  go_ret
  exact ⟨rfl, HB8.out⟩

end Go.Proofs.Ytnbndhmdfheikaa
