/- Walk of LinkCalm. By gen_lx.py. -/
import Derived.Test.YtnbndhmdfheikaaLX
import Derived.Test.YtnbndhmdfheikaaLW
namespace Go.Proofs.Ytnbndhmdfheikaa
open Go.RowKit

theorem below_lout {L lb : Nat} {st : Lk} {R : Nat → Option Addr} {C : Nat → Nat} {W0 W W' : World} (hb : Below L W0 W) (hl : LinkAt L lb st R C W) (h : ∃ R', Kept lb R R' W W') (hL : L ≤ W.heap.size) : Below L W0 W' := by
  obtain ⟨R', hk⟩ := h
  exact hb.trans (hk.below hl hL)

/-- Between two messages. -/
def CalmAt (me j B : Nat) (w : World) (n : Nat) (wr : World) : Prop :=
  ∃ ls st R C, ls.length = n ∧ Calm me j ls st ∧ Inv st ∧ LinkAt B B st R C wr ∧ Below B w wr ∧ B ≤ wr.heap.size

theorem Calm.sent_le {me j : Nat} {l : List ByteArray} {st : Lk} (h : Calm me j l st) : l.length ≤ 256 := (good_parts h.good).1

set_option maxRecDepth 100000 in
set_option maxHeartbeats 8000000 in
theorem calm_walk_0 (A0 : Option Addr) (N c0 : Nat) (list : List ByteArray) (tk : Int) (w : World) (hnm : N ≤ maxLen) (hr : Rd w w.heap.size 1 A0 N (list.map Value.string)) (hmask : bits BinOp.and IntKind.i64 tk 1 = 0) :
    Calls Try.prog 4 #[.slice A0 N c0, .int .i64 tk] w fun e w' => e = .returned (.bool true) ∧ Below w.heap.size w w' := by
  have hN : list.length = N := by simpa using hr.1
  have HR := Lib.hid hr
  have HNN := Lib.hid hN
  clear hr hN
  unfold maxLen at hnm
  go_enter Try.func4, Try.ntmps4
  go_wp2_with fail
  refine (wakes_any w).mono ?_
  rintro e w1 ⟨rfl, hb1⟩
  have HB1 := Lib.hid hb1
  clear hb1
  have hz1 : w.heap.size ≤ w1.heap.size := HB1.out.size
  by_cases h300 : 300 < N
  · have i0 : (300 : Int) < (N : Int) := by omega
    go_wp2
    go_ret
    exact ⟨rfl, HB1.out⟩
  have i0 : ¬ ((300 : Int) < (N : Int)) := by omega
  go_wp2_with fail
  refine (new_any w1).mono ?_
  rintro e w2 ⟨rfl, hl2, hb2⟩
  have HM : Hid (CalmAt 0 1 w1.heap.size w1 0 w2) := ⟨[], st0, _, _, rfl, Calm.start _ _, Inv.start, hl2, hb2, hb2.size⟩
  clear hl2 hb2
  go_upto_region 9 with (fail)
  clear hmask
  go_loopw [7, 22] (fun v7 v22 wr => ∃ k s : Nat, k ≤ N ∧ v7 = .int .i64 s ∧ v22 = .int .i64 k ∧ s ≤ k ∧ CalmAt 0 1 w1.heap.size w1 s wr) (fun _ v22 _ => N - (intOf v22).toNat)
  case atStart => exact ⟨0, 0, Nat.zero_le _, rfl, rfl, Nat.le_refl _, HM.out⟩
  case round =>
    obtain ⟨k, s, hk, rfl, rfl, hsk, ls, st, R, C, hls, hcalm, hinv, hl, hb, hz⟩ := hrel
    rename World => V
    have HCALM := Lib.hid hcalm
    have HINV := Lib.hid hinv
    have HL := Lib.hid hl
    have HB := Lib.hid (HB1.out.trans (hb.mono hz1))
    have HBB := Lib.hid hb
    have HLS := Lib.hid hls
    clear hcalm hinv hl hb hls
    by_cases hlt : k < N
    · have hlt' : k < list.length := by have := HNN.out; omega
      obtain ⟨a, rfl, _, ca⟩ := (HR.out.below HB.out).cell (j := k) (u := .string (list[k])) (by simp)
      have i1 : (0 : Int) ≤ (k : Int) := by omega
      have i2 : (k : Int) < (N : Int) := by omega
      have hsend := send_0 _ _ st R C V list[k] HL.out HINV.out.fits.u1 hz HINV.out.fits.s0
      rcases calm_send (me := 0) (j := 1) rfl rfl (by decide) HCALM.out list[k] with ⟨hf, hs⟩ | ⟨hf, hs⟩ | ⟨st1, st2, hs, hu1, hc, hcalm2, hsz⟩
      · rw [hs] at hsend
        have HSEND := Lib.hid hsend
        clear hsend hs
        generalize list[k] = m at *
        go_wp2_with fail
        refine HSEND.out.mono ?_
        rintro e w3 ⟨rfl, R3, C3, hl3, hk3⟩
        have HB3 := Lib.hid (below_lout HBB.out HL.out ⟨_, hk3⟩ hz)
        have HL3 := Lib.hid hl3
        have hz3 : w1.heap.size ≤ w3.heap.size := Nat.le_trans hz hk3.size
        clear hl3 hk3 ca
        by_cases hm0 : m.size = 0
        · have hm1 : m.toList = [] := (empty_iff m).2 hm0
          go_wp2
          go_roundw
          case rel => exact ⟨k + 1, s, by omega, rfl, by go_num, by omega, ls, st, R3, C3, HLS.out, HCALM.out, HINV.out, HL3.out, HB3.out, hz3⟩
          case measure => simp [intOf]; omega
        · have hm1 : m.toList.isEmpty = false := by rw [List.isEmpty_eq_false_iff]; exact fun e => hm0 ((empty_iff m).1 e)
          have hm2 : (4096 : Int) < (m.size : Int) := by
            by_cases h : m.size ≤ 4096
            · exact absurd hf (by simp [fitsB]; omega)
            · omega
          go_wp2
          go_roundw
          case rel => exact ⟨k + 1, s, by omega, rfl, by go_num, by omega, ls, st, R3, C3, HLS.out, HCALM.out, HINV.out, HL3.out, HB3.out, hz3⟩
          case measure => simp [intOf]; omega
      · rw [hs] at hsend
        have HSEND := Lib.hid hsend
        clear hsend hs
        generalize list[k] = m at *
        obtain ⟨hf1, hf2⟩ := fits_size hf
        have hm1 : m.toList.isEmpty = false := by rw [List.isEmpty_eq_false_iff]; exact fun e => by have := (empty_iff m).1 e; omega
        have hm2 : ¬ ((4096 : Int) < (m.size : Int)) := by omega
        go_wp2_with fail
        refine HSEND.out.mono ?_
        rintro e w3 ⟨rfl, R3, C3, hl3, hk3⟩
        have HB3 := Lib.hid (below_lout HBB.out HL.out ⟨_, hk3⟩ hz)
        have HL3 := Lib.hid hl3
        have hz3 : w1.heap.size ≤ w3.heap.size := Nat.le_trans hz hk3.size
        clear hl3 hk3 ca
        go_wp2
        go_roundw
        case rel => exact ⟨k + 1, s, by omega, rfl, by go_num, by omega, ls, st, R3, C3, HLS.out, HCALM.out, HINV.out, HL3.out, HB3.out, hz3⟩
        case measure => simp [intOf]; omega
      · have inv1 := HINV.out.send 0 (.inl rfl) list[k]
        rw [hs] at hsend inv1
        have inv2 := inv1.come 1 (.inr rfl) 0 false
        rw [hc] at inv2
        dsimp only at inv1 inv2
        have HU : Hid (∀ R C W, LinkAt w1.heap.size w1.heap.size st1 R C W → Calls Try.prog 15 #[.pointer (some ⟨w1.heap.size, 0, none⟩), .int .i64 1] W fun e W' => (∃ A c, e = .returned (.slice A 1 c)) ∧ Below W.heap.size W W') := fun R C W hl => by
          have h := under_1 _ _ st1 R C W hl inv1.fits.u1
          unfold OwnFrs at h
          rw [hu1] at h
          exact h.mono fun e W' ⟨A, c, h1, _, _, _, h2⟩ => ⟨⟨A, c, h1⟩, h2⟩
        have HC : Hid (∀ R C W, LinkAt w1.heap.size w1.heap.size st1 R C W → w1.heap.size ≤ W.heap.size → Calls Try.prog 16 #[.pointer (some ⟨w1.heap.size, 0, none⟩), .int .i64 1, .int .i64 0, .bool false] W fun e W' => e = .returned (.int .i64 0) ∧ LOut w1.heap.size w1.heap.size R W st2 W') := fun R C W hl hL => by
          have f := inv1.fits
          have h := come_1_false _ _ st1 R C W 0 hl f.u1 f.u0 f.g1 hL f.s1
          rwa [hc] at h
        have HG : Hid (∀ R C W, LinkAt w1.heap.size w1.heap.size st2 R C W → Calls Try.prog 11 #[.pointer (some ⟨w1.heap.size, 0, none⟩), .int .i64 1] W fun e W' => ∃ a c, e = .returned (.slice (some a) (s + 1) c) ∧ W'.cell? (a.add s) = some (.string list[k]) ∧ Below W.heap.size W W') := fun R C W hl => by
          have h := got_1 _ _ st2 R C W hl (by have := inv2.fits.g1; omega)
          have e : (st2.g 1).length = s + 1 := by rw [hcalm2.gj, List.length_append, HLS.out]; rfl
          rw [e] at h
          refine h.mono fun e W' ⟨A, c, h1, _, _, h3, h2⟩ => ?_
          obtain ⟨a, rfl, _, hc⟩ := (Rd.of_own h3).cell (j := s) (u := .string list[k]) (by rw [hcalm2.gj]; simp [← HLS.out])
          exact ⟨a, c, h1, hc, h2⟩
        have HU0 : Hid (∀ R C W, LinkAt w1.heap.size w1.heap.size st2 R C W → Calls Try.prog 15 #[.pointer (some ⟨w1.heap.size, 0, none⟩), .int .i64 0] W fun e W' => (∃ A c, e = .returned (.slice A 0 c)) ∧ Below W.heap.size W W') := fun R C W hl => by
          have h := under_0 _ _ st2 R C W hl inv2.fits.u0
          unfold OwnFrs at h
          rw [hcalm2.um] at h
          exact h.mono fun e W' ⟨A, c, h1, _, _, _, h2⟩ => ⟨⟨A, c, h1⟩, h2⟩
        have HU1 : Hid (∀ R C W, LinkAt w1.heap.size w1.heap.size st2 R C W → Calls Try.prog 15 #[.pointer (some ⟨w1.heap.size, 0, none⟩), .int .i64 1] W fun e W' => (∃ A c, e = .returned (.slice A 0 c)) ∧ Below W.heap.size W W') := fun R C W hl => by
          have h := under_1 _ _ st2 R C W hl inv2.fits.u1
          unfold OwnFrs at h
          rw [hcalm2.uj] at h
          exact h.mono fun e W' ⟨A, c, h1, _, _, _, h2⟩ => ⟨⟨A, c, h1⟩, h2⟩
        have HO : Hid (∀ R C W, LinkAt w1.heap.size w1.heap.size st2 R C W → Calls Try.prog 17 #[.pointer (some ⟨w1.heap.size, 0, none⟩)] W fun e W' => e = .returned (.int .i64 0) ∧ Below W.heap.size W W') := fun R C W hl => by
          have g0 := good_parts inv2.1.half.good
          have g1 := good_parts inv2.2.half.good
          have h := open_any _ _ st2 R C W hl (by omega) (by omega) (by omega) (by omega)
          rwa [hcalm2.open_0] at h
        have HSEND := Lib.hid hsend
        have HNEXT : Hid (CalmAt 0 1 w1.heap.size w1 (s + 1) = CalmAt 0 1 w1.heap.size w1 (s + 1) ∧ Inv st2 ∧ Calm 0 1 (ls ++ [list[k]]) st2 ∧ (ls ++ [list[k]]).length = s + 1) := ⟨rfl, inv2, hcalm2, by rw [List.length_append, HLS.out]; rfl⟩
        clear hsend hs hc hcalm2 inv1 inv2 hu1
        have hlen : ∃ x, x = list[k] := ⟨_, rfl⟩
        obtain ⟨m, hm⟩ := hlen
        rw [← hm] at HSEND HG HNEXT ca hsz
        clear hm
        go_wp2_with fail
        refine HSEND.out.mono ?_
        rintro e w3 ⟨rfl, R3, C3, hl3, hk3⟩
        have HB3 := Lib.hid (below_lout HBB.out HL.out ⟨_, hk3⟩ hz)
        have HL3 := Lib.hid hl3
        have hz3 : w1.heap.size ≤ w3.heap.size := Nat.le_trans hz hk3.size
        clear hl3 hk3 ca
        go_wp2_with fail
        refine (HU.out _ _ _ HL3.out).mono ?_
        rintro e w4 ⟨⟨A4, c4, rfl⟩, hb4⟩
        have HB4 := Lib.hid (HB3.out.trans (hb4.mono hz3))
        have HL4 := Lib.hid (HL3.out.over hb4)
        have hz4 : w1.heap.size ≤ w4.heap.size := Nat.le_trans hz3 hb4.size
        clear hb4 HL3 HB3
        go_wp2_with fail
        refine (HC.out _ _ _ HL4.out hz4).mono ?_
        rintro e w5 ⟨rfl, R5, C5, hl5, hk5⟩
        have HB5 := Lib.hid (below_lout HB4.out HL4.out ⟨_, hk5⟩ hz4)
        have HL5 := Lib.hid hl5
        have hz5 : w1.heap.size ≤ w5.heap.size := Nat.le_trans hz4 hk5.size
        clear hl5 hk5 HL4 HB4
        go_wp2_with fail
        refine (HG.out _ _ _ HL5.out).mono ?_
        rintro e w6 ⟨a6, c6, rfl, ca6, hb6⟩
        have HB6 := Lib.hid (HB5.out.trans (hb6.mono hz5))
        have HL6 := Lib.hid (HL5.out.over hb6)
        have hz6 : w1.heap.size ≤ w6.heap.size := Nat.le_trans hz5 hb6.size
        clear hb6 HL5 HB5
        have j1 : (0 : Int) ≤ (s : Int) := by omega
        have j2 : (s : Int) < ((s + 1 : Nat) : Int) := by omega
        go_wp2_with fail
        refine (HU0.out _ _ _ HL6.out).mono ?_
        rintro e w7 ⟨⟨A7, c7, rfl⟩, hb7⟩
        have HB7 := Lib.hid (HB6.out.trans (hb7.mono hz6))
        have HL7 := Lib.hid (HL6.out.over hb7)
        have hz7 : w1.heap.size ≤ w7.heap.size := Nat.le_trans hz6 hb7.size
        clear hb7 HL6 HB6
        go_wp2_with fail
        refine (HU1.out _ _ _ HL7.out).mono ?_
        rintro e w8 ⟨⟨A8, c8, rfl⟩, hb8⟩
        have HB8 := Lib.hid (HB7.out.trans (hb8.mono hz7))
        have HL8 := Lib.hid (HL7.out.over hb8)
        have hz8 : w1.heap.size ≤ w8.heap.size := Nat.le_trans hz7 hb8.size
        clear hb8 HL7 HB7
        go_wp2_with fail
        refine (HO.out _ _ _ HL8.out).mono ?_
        rintro e w9 ⟨rfl, hb9⟩
        have HB9 := Lib.hid (HB8.out.trans (hb9.mono hz8))
        have HL9 := Lib.hid (HL8.out.over hb9)
        have hz9 : w1.heap.size ≤ w9.heap.size := Nat.le_trans hz8 hb9.size
        clear hb9 HL8 HB8
        go_wp2
        go_roundw
        case rel => exact ⟨k + 1, s + 1, by omega, by go_num, by go_num, by omega, _, st2, _, _, HNEXT.out.2.2.2, HNEXT.out.2.2.1, HNEXT.out.2.1, HL9.out, HB9.out, hz9⟩
        case measure => simp [intOf]; omega
    · have i3 : ¬ ((k : Int) < (N : Int)) := by omega
      go_wp2
      go_ret
      exact ⟨rfl, HB.out⟩
set_option maxRecDepth 100000 in
set_option maxHeartbeats 8000000 in
theorem calm_walk_1 (A0 : Option Addr) (N c0 : Nat) (list : List ByteArray) (tk : Int) (w : World) (hnm : N ≤ maxLen) (hr : Rd w w.heap.size 1 A0 N (list.map Value.string)) (hmask : bits BinOp.and IntKind.i64 tk 1 = 1) :
    Calls Try.prog 4 #[.slice A0 N c0, .int .i64 tk] w fun e w' => e = .returned (.bool true) ∧ Below w.heap.size w w' := by
  have hN : list.length = N := by simpa using hr.1
  have HR := Lib.hid hr
  have HNN := Lib.hid hN
  clear hr hN
  unfold maxLen at hnm
  go_enter Try.func4, Try.ntmps4
  go_wp2_with fail
  refine (wakes_any w).mono ?_
  rintro e w1 ⟨rfl, hb1⟩
  have HB1 := Lib.hid hb1
  clear hb1
  have hz1 : w.heap.size ≤ w1.heap.size := HB1.out.size
  by_cases h300 : 300 < N
  · have i0 : (300 : Int) < (N : Int) := by omega
    go_wp2
    go_ret
    exact ⟨rfl, HB1.out⟩
  have i0 : ¬ ((300 : Int) < (N : Int)) := by omega
  go_wp2_with fail
  refine (new_any w1).mono ?_
  rintro e w2 ⟨rfl, hl2, hb2⟩
  have HM : Hid (CalmAt 1 0 w1.heap.size w1 0 w2) := ⟨[], st0, _, _, rfl, Calm.start _ _, Inv.start, hl2, hb2, hb2.size⟩
  clear hl2 hb2
  go_upto_region 9 with (fail)
  clear hmask
  go_loopw [7, 22] (fun v7 v22 wr => ∃ k s : Nat, k ≤ N ∧ v7 = .int .i64 s ∧ v22 = .int .i64 k ∧ s ≤ k ∧ CalmAt 1 0 w1.heap.size w1 s wr) (fun _ v22 _ => N - (intOf v22).toNat)
  case atStart => exact ⟨0, 0, Nat.zero_le _, rfl, rfl, Nat.le_refl _, HM.out⟩
  case round =>
    obtain ⟨k, s, hk, rfl, rfl, hsk, ls, st, R, C, hls, hcalm, hinv, hl, hb, hz⟩ := hrel
    rename World => V
    have HCALM := Lib.hid hcalm
    have HINV := Lib.hid hinv
    have HL := Lib.hid hl
    have HB := Lib.hid (HB1.out.trans (hb.mono hz1))
    have HBB := Lib.hid hb
    have HLS := Lib.hid hls
    clear hcalm hinv hl hb hls
    by_cases hlt : k < N
    · have hlt' : k < list.length := by have := HNN.out; omega
      obtain ⟨a, rfl, _, ca⟩ := (HR.out.below HB.out).cell (j := k) (u := .string (list[k])) (by simp)
      have i1 : (0 : Int) ≤ (k : Int) := by omega
      have i2 : (k : Int) < (N : Int) := by omega
      have hsend := send_1 _ _ st R C V list[k] HL.out HINV.out.fits.u0 hz HINV.out.fits.s1
      rcases calm_send (me := 1) (j := 0) rfl rfl (by decide) HCALM.out list[k] with ⟨hf, hs⟩ | ⟨hf, hs⟩ | ⟨st1, st2, hs, hu1, hc, hcalm2, hsz⟩
      · rw [hs] at hsend
        have HSEND := Lib.hid hsend
        clear hsend hs
        generalize list[k] = m at *
        go_wp2_with fail
        refine HSEND.out.mono ?_
        rintro e w3 ⟨rfl, R3, C3, hl3, hk3⟩
        have HB3 := Lib.hid (below_lout HBB.out HL.out ⟨_, hk3⟩ hz)
        have HL3 := Lib.hid hl3
        have hz3 : w1.heap.size ≤ w3.heap.size := Nat.le_trans hz hk3.size
        clear hl3 hk3 ca
        by_cases hm0 : m.size = 0
        · have hm1 : m.toList = [] := (empty_iff m).2 hm0
          go_wp2
          go_roundw
          case rel => exact ⟨k + 1, s, by omega, rfl, by go_num, by omega, ls, st, R3, C3, HLS.out, HCALM.out, HINV.out, HL3.out, HB3.out, hz3⟩
          case measure => simp [intOf]; omega
        · have hm1 : m.toList.isEmpty = false := by rw [List.isEmpty_eq_false_iff]; exact fun e => hm0 ((empty_iff m).1 e)
          have hm2 : (4096 : Int) < (m.size : Int) := by
            by_cases h : m.size ≤ 4096
            · exact absurd hf (by simp [fitsB]; omega)
            · omega
          go_wp2
          go_roundw
          case rel => exact ⟨k + 1, s, by omega, rfl, by go_num, by omega, ls, st, R3, C3, HLS.out, HCALM.out, HINV.out, HL3.out, HB3.out, hz3⟩
          case measure => simp [intOf]; omega
      · rw [hs] at hsend
        have HSEND := Lib.hid hsend
        clear hsend hs
        generalize list[k] = m at *
        obtain ⟨hf1, hf2⟩ := fits_size hf
        have hm1 : m.toList.isEmpty = false := by rw [List.isEmpty_eq_false_iff]; exact fun e => by have := (empty_iff m).1 e; omega
        have hm2 : ¬ ((4096 : Int) < (m.size : Int)) := by omega
        go_wp2_with fail
        refine HSEND.out.mono ?_
        rintro e w3 ⟨rfl, R3, C3, hl3, hk3⟩
        have HB3 := Lib.hid (below_lout HBB.out HL.out ⟨_, hk3⟩ hz)
        have HL3 := Lib.hid hl3
        have hz3 : w1.heap.size ≤ w3.heap.size := Nat.le_trans hz hk3.size
        clear hl3 hk3 ca
        go_wp2
        go_roundw
        case rel => exact ⟨k + 1, s, by omega, rfl, by go_num, by omega, ls, st, R3, C3, HLS.out, HCALM.out, HINV.out, HL3.out, HB3.out, hz3⟩
        case measure => simp [intOf]; omega
      · have inv1 := HINV.out.send 1 (.inr rfl) list[k]
        rw [hs] at hsend inv1
        have inv2 := inv1.come 0 (.inl rfl) 0 false
        rw [hc] at inv2
        dsimp only at inv1 inv2
        have HU : Hid (∀ R C W, LinkAt w1.heap.size w1.heap.size st1 R C W → Calls Try.prog 15 #[.pointer (some ⟨w1.heap.size, 0, none⟩), .int .i64 0] W fun e W' => (∃ A c, e = .returned (.slice A 1 c)) ∧ Below W.heap.size W W') := fun R C W hl => by
          have h := under_0 _ _ st1 R C W hl inv1.fits.u0
          unfold OwnFrs at h
          rw [hu1] at h
          exact h.mono fun e W' ⟨A, c, h1, _, _, _, h2⟩ => ⟨⟨A, c, h1⟩, h2⟩
        have HC : Hid (∀ R C W, LinkAt w1.heap.size w1.heap.size st1 R C W → w1.heap.size ≤ W.heap.size → Calls Try.prog 16 #[.pointer (some ⟨w1.heap.size, 0, none⟩), .int .i64 0, .int .i64 0, .bool false] W fun e W' => e = .returned (.int .i64 0) ∧ LOut w1.heap.size w1.heap.size R W st2 W') := fun R C W hl hL => by
          have f := inv1.fits
          have h := come_0_false _ _ st1 R C W 0 hl f.u0 f.u1 f.g0 hL f.s0
          rwa [hc] at h
        have HG : Hid (∀ R C W, LinkAt w1.heap.size w1.heap.size st2 R C W → Calls Try.prog 11 #[.pointer (some ⟨w1.heap.size, 0, none⟩), .int .i64 0] W fun e W' => ∃ a c, e = .returned (.slice (some a) (s + 1) c) ∧ W'.cell? (a.add s) = some (.string list[k]) ∧ Below W.heap.size W W') := fun R C W hl => by
          have h := got_0 _ _ st2 R C W hl (by have := inv2.fits.g0; omega)
          have e : (st2.g 0).length = s + 1 := by rw [hcalm2.gj, List.length_append, HLS.out]; rfl
          rw [e] at h
          refine h.mono fun e W' ⟨A, c, h1, _, _, h3, h2⟩ => ?_
          obtain ⟨a, rfl, _, hc⟩ := (Rd.of_own h3).cell (j := s) (u := .string list[k]) (by rw [hcalm2.gj]; simp [← HLS.out])
          exact ⟨a, c, h1, hc, h2⟩
        have HU0 : Hid (∀ R C W, LinkAt w1.heap.size w1.heap.size st2 R C W → Calls Try.prog 15 #[.pointer (some ⟨w1.heap.size, 0, none⟩), .int .i64 0] W fun e W' => (∃ A c, e = .returned (.slice A 0 c)) ∧ Below W.heap.size W W') := fun R C W hl => by
          have h := under_0 _ _ st2 R C W hl inv2.fits.u0
          unfold OwnFrs at h
          rw [hcalm2.uj] at h
          exact h.mono fun e W' ⟨A, c, h1, _, _, _, h2⟩ => ⟨⟨A, c, h1⟩, h2⟩
        have HU1 : Hid (∀ R C W, LinkAt w1.heap.size w1.heap.size st2 R C W → Calls Try.prog 15 #[.pointer (some ⟨w1.heap.size, 0, none⟩), .int .i64 1] W fun e W' => (∃ A c, e = .returned (.slice A 0 c)) ∧ Below W.heap.size W W') := fun R C W hl => by
          have h := under_1 _ _ st2 R C W hl inv2.fits.u1
          unfold OwnFrs at h
          rw [hcalm2.um] at h
          exact h.mono fun e W' ⟨A, c, h1, _, _, _, h2⟩ => ⟨⟨A, c, h1⟩, h2⟩
        have HO : Hid (∀ R C W, LinkAt w1.heap.size w1.heap.size st2 R C W → Calls Try.prog 17 #[.pointer (some ⟨w1.heap.size, 0, none⟩)] W fun e W' => e = .returned (.int .i64 0) ∧ Below W.heap.size W W') := fun R C W hl => by
          have g0 := good_parts inv2.1.half.good
          have g1 := good_parts inv2.2.half.good
          have h := open_any _ _ st2 R C W hl (by omega) (by omega) (by omega) (by omega)
          rwa [hcalm2.open_1] at h
        have HSEND := Lib.hid hsend
        have HNEXT : Hid (CalmAt 1 0 w1.heap.size w1 (s + 1) = CalmAt 1 0 w1.heap.size w1 (s + 1) ∧ Inv st2 ∧ Calm 1 0 (ls ++ [list[k]]) st2 ∧ (ls ++ [list[k]]).length = s + 1) := ⟨rfl, inv2, hcalm2, by rw [List.length_append, HLS.out]; rfl⟩
        clear hsend hs hc hcalm2 inv1 inv2 hu1
        have hlen : ∃ x, x = list[k] := ⟨_, rfl⟩
        obtain ⟨m, hm⟩ := hlen
        rw [← hm] at HSEND HG HNEXT ca hsz
        clear hm
        go_wp2_with fail
        refine HSEND.out.mono ?_
        rintro e w3 ⟨rfl, R3, C3, hl3, hk3⟩
        have HB3 := Lib.hid (below_lout HBB.out HL.out ⟨_, hk3⟩ hz)
        have HL3 := Lib.hid hl3
        have hz3 : w1.heap.size ≤ w3.heap.size := Nat.le_trans hz hk3.size
        clear hl3 hk3 ca
        go_wp2_with fail
        refine (HU.out _ _ _ HL3.out).mono ?_
        rintro e w4 ⟨⟨A4, c4, rfl⟩, hb4⟩
        have HB4 := Lib.hid (HB3.out.trans (hb4.mono hz3))
        have HL4 := Lib.hid (HL3.out.over hb4)
        have hz4 : w1.heap.size ≤ w4.heap.size := Nat.le_trans hz3 hb4.size
        clear hb4 HL3 HB3
        go_wp2_with fail
        refine (HC.out _ _ _ HL4.out hz4).mono ?_
        rintro e w5 ⟨rfl, R5, C5, hl5, hk5⟩
        have HB5 := Lib.hid (below_lout HB4.out HL4.out ⟨_, hk5⟩ hz4)
        have HL5 := Lib.hid hl5
        have hz5 : w1.heap.size ≤ w5.heap.size := Nat.le_trans hz4 hk5.size
        clear hl5 hk5 HL4 HB4
        go_wp2_with fail
        refine (HG.out _ _ _ HL5.out).mono ?_
        rintro e w6 ⟨a6, c6, rfl, ca6, hb6⟩
        have HB6 := Lib.hid (HB5.out.trans (hb6.mono hz5))
        have HL6 := Lib.hid (HL5.out.over hb6)
        have hz6 : w1.heap.size ≤ w6.heap.size := Nat.le_trans hz5 hb6.size
        clear hb6 HL5 HB5
        have j1 : (0 : Int) ≤ (s : Int) := by omega
        have j2 : (s : Int) < ((s + 1 : Nat) : Int) := by omega
        go_wp2_with fail
        refine (HU1.out _ _ _ HL6.out).mono ?_
        rintro e w7 ⟨⟨A7, c7, rfl⟩, hb7⟩
        have HB7 := Lib.hid (HB6.out.trans (hb7.mono hz6))
        have HL7 := Lib.hid (HL6.out.over hb7)
        have hz7 : w1.heap.size ≤ w7.heap.size := Nat.le_trans hz6 hb7.size
        clear hb7 HL6 HB6
        go_wp2_with fail
        refine (HU0.out _ _ _ HL7.out).mono ?_
        rintro e w8 ⟨⟨A8, c8, rfl⟩, hb8⟩
        have HB8 := Lib.hid (HB7.out.trans (hb8.mono hz7))
        have HL8 := Lib.hid (HL7.out.over hb8)
        have hz8 : w1.heap.size ≤ w8.heap.size := Nat.le_trans hz7 hb8.size
        clear hb8 HL7 HB7
        go_wp2_with fail
        refine (HO.out _ _ _ HL8.out).mono ?_
        rintro e w9 ⟨rfl, hb9⟩
        have HB9 := Lib.hid (HB8.out.trans (hb9.mono hz8))
        have HL9 := Lib.hid (HL8.out.over hb9)
        have hz9 : w1.heap.size ≤ w9.heap.size := Nat.le_trans hz8 hb9.size
        clear hb9 HL8 HB8
        go_wp2
        go_roundw
        case rel => exact ⟨k + 1, s + 1, by omega, by go_num, by go_num, by omega, _, st2, _, _, HNEXT.out.2.2.2, HNEXT.out.2.2.1, HNEXT.out.2.1, HL9.out, HB9.out, hz9⟩
        case measure => simp [intOf]; omega
    · have i3 : ¬ ((k : Int) < (N : Int)) := by omega
      go_wp2
      go_ret
      exact ⟨rfl, HB.out⟩

end Go.Proofs.Ytnbndhmdfheikaa
