/- The texts DL DD in one. By merge_d.py. -/
import Derived.Test.YtnbndhmdfheikaaDKK
import Derived.Test.YtnbndhmdfheikaaLR
import Derived.Test.YtnbndhmdfheikaaLW
import Derived.Deep.LoopGhost
import Derived.Test.YtnbndhmdfheikaaLD
/- Walks of the document's all and Round. By gen_d.py. -/
namespace Go.Proofs.Ytnbndhmdfheikaa.D
open Go.RowKit

set_option maxHeartbeats 8000000 in
set_option maxRecDepth 100000 in
theorem all_any (L lb n : Nat) (st st9 : Lk) (R : Nat → Option Addr) (C : Nat → Nat) (W : World) (hl : LinkAt L lb st R C W) (hi : Inv st) (hall : allS n st = some st9) (hLW : L ≤ W.heap.size) :
    Calls Try.prog 48 #[.pointer (some ⟨lb, 0, none⟩)] W fun e W' => e = .returned (.tuple #[]) ∧ LOut L lb R W st9 W' := by
  have HL0 := Lib.hid hl
  have HI := Lib.hid hi
  have HALL := Lib.hid hall
  clear hl hi hall
  go_enter Try.func48, Try.ntmps48
  go_wp2
  go_loopg [2] n (fun g _ wx => ∃ (s : Lk) (R' : Nat → Option Addr) (C' : Nat → Nat), Hid (Inv s) ∧ Hid (allS g s = some st9) ∧ Hid (LinkAt L lb s R' C' wx) ∧ Hid (Kept lb R R' W wx))
  case atStart => exact ⟨st, R, C, HI, HALL, HL0, Kept.refl _ _ _⟩
  case round =>
    obtain ⟨s, R1, C1, HIs, HAs, HLs, HKs⟩ := hrel
    cases gk with
    | zero => exact absurd HAs.out (by simp [allS])
    | succ g =>
    have HSZ : Hid (L ≤ wr.heap.size) := Nat.le_trans hLW HKs.out.size
    have q0 : wr.cell? ⟨lb, 6, none⟩ = some (.slice (R1 2) (s.u 0).length (C1 2)) := by rw [HLs.out.bk.cell]; simp [lkCells]
    have q1 : wr.cell? ⟨lb, 7, none⟩ = some (.slice (R1 3) (s.u 1).length (C1 3)) := by rw [HLs.out.bk.cell]; simp [lkCells]
    have hlb := HLs.out.bk.lt
    have hb0 := HIs.out.fits.u0
    have hb1 := HIs.out.fits.u1
    obtain ⟨n0, hn0⟩ : ∃ n0, n0 = (s.u 0).length := ⟨_, rfl⟩
    obtain ⟨n1, hn1⟩ : ∃ n1, n1 = (s.u 1).length := ⟨_, rfl⟩
    rw [← hn0] at q0 hb0
    rw [← hn1] at q1 hb1
    have HN0 := Lib.hid hn0
    have HN1 := Lib.hid hn1
    clear hn0 hn1
    have iw : IntKind.i64.wrap ((n0 : Int) + n1) = (n0 : Int) + n1 := IntWalk.i64_in _ (by omega)
    by_cases h0 : 0 < n0
    · have i1 : (0 : Int) < (n0 : Int) + n1 := by omega
      have i2 : (0 : Int) < (n0 : Int) := by omega
      have i3 : decide ((0 : Int) < (n0 : Int) + n1) = true := decide_eq_true i1
      have hpop : (comeK s 0 0 false).2 = 0 ∧ allS g (comeK s 0 0 false).1 = some st9 := by
        have h := HAs.out
        cases hu : s.u 0 with
        | nil => rw [HN0.out, hu] at h0; exact absurd h0 (Nat.lt_irrefl 0)
        | cons f v =>
          have hp := (come_pop (k := 0) (j := 1) rfl (by decide) HIs.out.1 HIs.out.2 hu).1
          rw [allS, if_pos hp] at h
          exact ⟨hp, h⟩
      have HC : Hid (∀ V, LinkAt L lb s R1 C1 V → L ≤ V.heap.size → Calls Try.prog 34 #[.pointer (some ⟨lb, 0, none⟩), .int .i64 0, .int .i64 0, .bool false] V fun e W' => e = .returned (.int .i64 0) ∧ LOut L lb R1 V (comeK s 0 0 false).1 W') := fun V hl hLV => by
        have hf := HIs.out.fits
        have h := come_0_false L lb s R1 C1 V 0 hl hf.u0 hf.u1 hf.g0 hLV hf.s0
        rwa [hpop.1] at h
      have HP2 := Lib.hid hpop.2
      have HI2 := Lib.hid (HIs.out.come 0 (.inl rfl) 0 false)
      clear hpop
      go_wp2_with fail
      go_quiet (fail)
      go_wp2_with fail
      refine (HC.out _ (HLs.out.over (below_drewN (Below.refl _ _) _)) HSZ.out).mono ?_
      rintro e w3 ⟨rfl, R3, C3, hl3, hk3⟩
      have HL3 := Lib.hid hl3
      have HK3 : Hid (Kept lb R R3 W w3) := HKs.out.trans ((Kept.of_below _ _ (below_drewN (Below.refl _ _) _)).trans hk3)
      clear hl3 hk3 q0 q1 hlb
      go_wp2_with fail
      go_roundg g
      case measure => omega
      case rel => exact ⟨_, R3, C3, HI2, HP2, HL3, HK3⟩
    · have e0 : n0 = 0 := by omega
      subst e0
      have hu0 : s.u 0 = [] := List.eq_nil_of_length_eq_zero HN0.out.symm
      have hc0 := come_nil hu0
      by_cases h1 : 0 < n1
      · have i1 : (0 : Int) < (n1 : Int) := by omega
        have hpop : (comeK s 1 0 false).2 = 0 ∧ allS g (comeK s 1 0 false).1 = some st9 := by
          have h := HAs.out
          cases hu : s.u 1 with
          | nil => rw [HN1.out, hu] at h1; exact absurd h1 (Nat.lt_irrefl 0)
          | cons f v =>
            have hp := (come_pop (k := 1) (j := 0) rfl (by decide) HIs.out.2 HIs.out.1 hu).1
            rw [allS, hc0, if_neg (show ¬ (1 : Int) = 0 by decide), if_pos hp] at h
            exact ⟨hp, h⟩
        have HC : Hid (∀ V, LinkAt L lb s R1 C1 V → L ≤ V.heap.size → Calls Try.prog 34 #[.pointer (some ⟨lb, 0, none⟩), .int .i64 1, .int .i64 0, .bool false] V fun e W' => e = .returned (.int .i64 0) ∧ LOut L lb R1 V (comeK s 1 0 false).1 W') := fun V hl hLV => by
          have hf := HIs.out.fits
          have h := come_1_false L lb s R1 C1 V 0 hl hf.u1 hf.u0 hf.g1 hLV hf.s1
          rwa [hpop.1] at h
        have HP2 := Lib.hid hpop.2
        have HI2 := Lib.hid (HIs.out.come 1 (.inr rfl) 0 false)
        have i2 : decide (0 < n1) = true := decide_eq_true h1
        clear hpop hc0 hu0
        go_wp2_with fail
        go_quiet (fail)
        go_wp2_with fail
        refine (HC.out _ (HLs.out.over (below_drewN (Below.refl _ _) _)) HSZ.out).mono ?_
        rintro e w3 ⟨rfl, R3, C3, hl3, hk3⟩
        have HL3 := Lib.hid hl3
        have HK3 : Hid (Kept lb R R3 W w3) := HKs.out.trans ((Kept.of_below _ _ (below_drewN (Below.refl _ _) _)).trans hk3)
        clear hl3 hk3 q0 q1 hlb
        go_wp2_with fail
        go_roundg g
        case measure => omega
        case rel => exact ⟨_, R3, C3, HI2, HP2, HL3, HK3⟩
      · have e1 : n1 = 0 := by omega
        subst e1
        have hu1 : s.u 1 = [] := List.eq_nil_of_length_eq_zero HN1.out.symm
        have hst : st9 = s := by
          have h := HAs.out
          rw [allS, hc0, if_neg (show ¬ (1 : Int) = 0 by decide)] at h
          dsimp only at h
          rw [come_nil hu1, if_neg (show ¬ (1 : Int) = 0 by decide)] at h
          exact (Option.some.inj h).symm
        have HST := Lib.hid hst
        clear hst hu0 hu1 hc0
        go_wp2_with fail
        go_quiet (fail)
        go_wp2
        refine bodyPost_end (results_none rfl _ _ _) rfl ?_
        exact ⟨rfl, R1, C1, by rw [HST.out]; exact (HLs.out.over (below_drewN (Below.refl _ _) _)), HKs.out.trans (Kept.of_below _ _ (below_drewN (Below.refl _ _) _))⟩

set_option maxHeartbeats 8000000 in
set_option maxRecDepth 100000 in
theorem round_any (L lb n : Nat) (st st9 : Lk) (R : Nat → Option Addr) (C : Nat → Nat) (W : World) (hl : LinkAt L lb st R C W) (hi : Inv st) (hall : roundS n st = some st9) (hLW : L ≤ W.heap.size) :
    Calls Try.prog 36 #[.pointer (some ⟨lb, 0, none⟩)] W fun e W' => e = .returned (.tuple #[]) ∧ LOut L lb R W st9 W' := by
  obtain ⟨s1, hs1, hall2⟩ : ∃ s1, allS n st = some s1 ∧ allS n (tickK (tickK s1 0).1 1).1 = some st9 := by
    unfold roundS at hall
    cases h : allS n st with
    | none => rw [h] at hall; cases hall
    | some s1 => rw [h] at hall; exact ⟨s1, rfl, hall⟩
  have hp1 := hi.all hs1
  have hp2 := hp1.tick 0 (.inl rfl)
  have hp3 := hp2.tick 1 (.inr rfl)
  have HA1 := Lib.hid (all_any L lb n st s1 R C W hl hi hs1 hLW)
  have HA2 : Hid (∀ R C V, LinkAt L lb (tickK (tickK s1 0).1 1).1 R C V → L ≤ V.heap.size → Calls Try.prog 48 #[.pointer (some ⟨lb, 0, none⟩)] V fun e W' => e = .returned (.tuple #[]) ∧ LOut L lb R V st9 W') := fun R C V hl hLV => all_any L lb n _ st9 R C V hl hp3 hall2 hLV
  have HT1 : Hid (∀ R C V, LinkAt L lb s1 R C V → L ≤ V.heap.size → Calls Try.prog 33 #[.pointer (some ⟨lb, 0, none⟩), .int .i64 0] V fun e W' => e = .returned (.int .i64 (tickK s1 0).2) ∧ LOut L lb R V (tickK s1 0).1 W') := fun R C V hl hLV => tick_0 L lb s1 R C V hl hp1.1.half.good hp1.fits.u1 hLV
  have HT2 : Hid (∀ R C V, LinkAt L lb (tickK s1 0).1 R C V → L ≤ V.heap.size → Calls Try.prog 33 #[.pointer (some ⟨lb, 0, none⟩), .int .i64 1] V fun e W' => e = .returned (.int .i64 (tickK (tickK s1 0).1 1).2) ∧ LOut L lb R V (tickK (tickK s1 0).1 1).1 W') := fun R C V hl hLV => tick_1 L lb _ R C V hl hp2.2.half.good hp2.fits.u0 hLV
  obtain ⟨⟨s2, e2⟩, hs2⟩ : ∃ r, r = tickK s1 0 := ⟨_, rfl⟩
  rw [← hs2] at HT1 HT2 HA2
  dsimp only at HT1 HT2 HA2
  obtain ⟨⟨s3, e3⟩, hs3⟩ : ∃ r, r = tickK s2 1 := ⟨_, rfl⟩
  rw [← hs3] at HT2 HA2
  dsimp only at HT2 HA2
  clear hs2 hs3 hp1 hp2 hp3 hs1 hall2 hall hl hi
  go_enter Try.func36, Try.ntmps36
  go_wp2_with fail
  refine HA1.out.mono ?_
  rintro e w1 ⟨rfl, R1, C1, hl1, hk1⟩
  have HL1 := Lib.hid hl1
  have HK1 := Lib.hid hk1
  clear hl1 hk1 HA1
  go_wp2_with fail
  refine (HT1.out _ _ _ HL1.out (Nat.le_trans hLW HK1.out.size)).mono ?_
  rintro e w2 ⟨rfl, R2, C2, hl2, hk2⟩
  have HL2 := Lib.hid hl2
  have HK2 : Hid (Kept lb R R2 W w2) := HK1.out.trans hk2
  clear hl2 hk2 HT1
  go_wp2_with fail
  refine (HT2.out _ _ _ HL2.out (Nat.le_trans hLW HK2.out.size)).mono ?_
  rintro e w3 ⟨rfl, R3, C3, hl3, hk3⟩
  have HL3 := Lib.hid hl3
  have HK3 : Hid (Kept lb R R3 W w3) := HK2.out.trans hk3
  clear hl3 hk3 HT2
  go_wp2_with fail
  refine (HA2.out _ _ _ HL3.out (Nat.le_trans hLW HK3.out.size)).mono ?_
  rintro e w4 ⟨rfl, R4, C4, hl4, hk4⟩
  have HL4 := Lib.hid hl4
  have HK4 : Hid (Kept lb R R4 W w4) := HK3.out.trans hk4
  clear hl4 hk4 HA2
  go_wp2_with fail
  refine bodyPost_end (results_none rfl _ _ _) rfl ?_
  exact ⟨rfl, R4, C4, HL4.out, HK4.out⟩

end Go.Proofs.Ytnbndhmdfheikaa.D

/- The document's answer to a move; Open. By gen_d.py. -/
namespace Go.Proofs.Ytnbndhmdfheikaa.D
open Go.RowKit

set_option maxHeartbeats 1000000 in
theorem send_no (b : Nat) (who : Int) (m : ByteArray) (w : World) (h : ¬ (who = 0 ∨ who = 1)) : Calls Try.prog 32 #[.pointer (some ⟨b, 0, none⟩), .int .i64 who, .string m] w fun e w' => e = .returned (.int .i64 1) ∧ w' = w := by
  have b0 : (who != 0) = true := by rw [bne_iff_ne]; omega
  have b1 : (who != 1) = true := by rw [bne_iff_ne]; omega
  have b2 : (who == 0) = false := by rw [beq_eq_false_iff_ne]; omega
  have b3 : (who == 1) = false := by rw [beq_eq_false_iff_ne]; omega
  clear h
  go_enter Try.func32, Try.ntmps32
  go_wp2
  go_ret
  exact ⟨rfl, rfl⟩

set_option maxHeartbeats 1000000 in
theorem tick_no (b : Nat) (who : Int) (w : World) (h : ¬ (who = 0 ∨ who = 1)) : Calls Try.prog 33 #[.pointer (some ⟨b, 0, none⟩), .int .i64 who] w fun e w' => e = .returned (.int .i64 1) ∧ w' = w := by
  have b0 : (who != 0) = true := by rw [bne_iff_ne]; omega
  have b1 : (who != 1) = true := by rw [bne_iff_ne]; omega
  have b2 : (who == 0) = false := by rw [beq_eq_false_iff_ne]; omega
  have b3 : (who == 1) = false := by rw [beq_eq_false_iff_ne]; omega
  clear h
  go_enter Try.func33, Try.ntmps33
  go_wp2
  go_ret
  exact ⟨rfl, rfl⟩

set_option maxHeartbeats 1000000 in
theorem come_no (b : Nat) (who : Int) (i : Int) (keep : Bool) (w : World) (h : ¬ (who = 0 ∨ who = 1)) : Calls Try.prog 34 #[.pointer (some ⟨b, 0, none⟩), .int .i64 who, .int .i64 i, .bool keep] w fun e w' => e = .returned (.int .i64 1) ∧ w' = w := by
  have b0 : (who != 0) = true := by rw [bne_iff_ne]; omega
  have b1 : (who != 1) = true := by rw [bne_iff_ne]; omega
  have b2 : (who == 0) = false := by rw [beq_eq_false_iff_ne]; omega
  have b3 : (who == 1) = false := by rw [beq_eq_false_iff_ne]; omega
  clear h
  go_enter Try.func34, Try.ntmps34
  go_wp2
  go_ret
  exact ⟨rfl, rfl⟩

set_option maxHeartbeats 1000000 in
theorem lose_no (b : Nat) (who : Int) (i : Int) (w : World) (h : ¬ (who = 0 ∨ who = 1)) : Calls Try.prog 35 #[.pointer (some ⟨b, 0, none⟩), .int .i64 who, .int .i64 i] w fun e w' => e = .returned (.int .i64 1) ∧ w' = w := by
  have b0 : (who != 0) = true := by rw [bne_iff_ne]; omega
  have b1 : (who != 1) = true := by rw [bne_iff_ne]; omega
  have b2 : (who == 0) = false := by rw [beq_eq_false_iff_ne]; omega
  have b3 : (who == 1) = false := by rw [beq_eq_false_iff_ne]; omega
  clear h
  go_enter Try.func35, Try.ntmps35
  go_wp2
  go_ret
  exact ⟨rfl, rfl⟩

theorem LOut.refl {L lb : Nat} {st : Lk} {R : Nat → Option Addr} {C : Nat → Nat} {W : World} (h : LinkAt L lb st R C W) : LOut L lb R W st W := ⟨R, C, h, Kept.refl _ _ _⟩

section
variable (L lb : Nat) (st : Lk) (R : Nat → Option Addr) (C : Nat → Nat) (W : World) (who : Int)
theorem dsend (m : ByteArray) (hi : Inv st) (hl : LinkAt L lb st R C W) (hL : L ≤ W.heap.size) : Calls Try.prog 32 #[.pointer (some ⟨lb, 0, none⟩), .int .i64 who, .string m] W fun e W' =>
    e = .returned (.int .i64 (if who = 0 ∨ who = 1 then sendK st who.toNat m else (st, 1)).2) ∧ LOut L lb R W (if who = 0 ∨ who = 1 then sendK st who.toNat m else (st, 1)).1 W' := by
  have f := hi.fits
  by_cases h : who = 0 ∨ who = 1
  · rw [if_pos h]
    rcases h with rfl | rfl
    · exact send_0 L lb st R C W m hl f.u1 hL f.s0
    · exact send_1 L lb st R C W m hl f.u0 hL f.s1
  · rw [if_neg h]
    exact (send_no lb who m W h).mono fun e W' ⟨he, hw⟩ => ⟨he, by rw [hw]; exact LOut.refl hl⟩
theorem dtick (hi : Inv st) (hl : LinkAt L lb st R C W) (hL : L ≤ W.heap.size) : Calls Try.prog 33 #[.pointer (some ⟨lb, 0, none⟩), .int .i64 who] W fun e W' =>
    e = .returned (.int .i64 (if who = 0 ∨ who = 1 then tickK st who.toNat else (st, 1)).2) ∧ LOut L lb R W (if who = 0 ∨ who = 1 then tickK st who.toNat else (st, 1)).1 W' := by
  have f := hi.fits
  by_cases h : who = 0 ∨ who = 1
  · rw [if_pos h]
    rcases h with rfl | rfl
    · exact tick_0 L lb st R C W hl hi.1.half.good f.u1 hL
    · exact tick_1 L lb st R C W hl hi.2.half.good f.u0 hL
  · rw [if_neg h]
    exact (tick_no lb who W h).mono fun e W' ⟨he, hw⟩ => ⟨he, by rw [hw]; exact LOut.refl hl⟩
theorem dcome (i : Int) (keep : Bool) (hi : Inv st) (hl : LinkAt L lb st R C W) (hL : L ≤ W.heap.size) : Calls Try.prog 34 #[.pointer (some ⟨lb, 0, none⟩), .int .i64 who, .int .i64 i, .bool keep] W fun e W' =>
    e = .returned (.int .i64 (if who = 0 ∨ who = 1 then comeK st who.toNat i keep else (st, 1)).2) ∧ LOut L lb R W (if who = 0 ∨ who = 1 then comeK st who.toNat i keep else (st, 1)).1 W' := by
  have f := hi.fits
  by_cases h : who = 0 ∨ who = 1
  · rw [if_pos h]
    rcases h with rfl | rfl
    · cases keep
      · exact come_0_false L lb st R C W i hl f.u0 f.u1 f.g0 hL f.s0
      · exact come_0_true L lb st R C W i hl f.u0 f.u1 f.g0 hL f.s0
    · cases keep
      · exact come_1_false L lb st R C W i hl f.u1 f.u0 f.g1 hL f.s1
      · exact come_1_true L lb st R C W i hl f.u1 f.u0 f.g1 hL f.s1
  · rw [if_neg h]
    exact (come_no lb who i keep W h).mono fun e W' ⟨he, hw⟩ => ⟨he, by rw [hw]; exact LOut.refl hl⟩
theorem dlose (i : Int) (hi : Inv st) (hl : LinkAt L lb st R C W) (hL : L ≤ W.heap.size) : Calls Try.prog 35 #[.pointer (some ⟨lb, 0, none⟩), .int .i64 who, .int .i64 i] W fun e W' =>
    e = .returned (.int .i64 (if who = 0 ∨ who = 1 then loseK st who.toNat i else (st, 1)).2) ∧ LOut L lb R W (if who = 0 ∨ who = 1 then loseK st who.toNat i else (st, 1)).1 W' := by
  have f := hi.fits
  by_cases h : who = 0 ∨ who = 1
  · rw [if_pos h]
    rcases h with rfl | rfl
    · exact lose_0 L lb st R C W i hl f.u0 hL
    · exact lose_1 L lb st R C W i hl f.u1 hL
  · rw [if_neg h]
    exact (lose_no lb who i W h).mono fun e W' ⟨he, hw⟩ => ⟨he, by rw [hw]; exact LOut.refl hl⟩
theorem dround (hi : Inv st) (hl : LinkAt L lb st R C W) (hL : L ≤ W.heap.size) : Calls Try.prog 36 #[.pointer (some ⟨lb, 0, none⟩)] W fun e W' => e = .returned (.tuple #[]) ∧ LOut L lb R W ((roundS FU st).getD st) W' := by
  obtain ⟨st9, h9, _⟩ := round_ends hi
  have := round_any L lb FU st st9 R C W hl hi h9 hL
  rw [h9]
  exact this
end
theorem LinkAt.lout {L lb : Nat} {st st' : Lk} {R : Nat → Option Addr} {C : Nat → Nat} {W V W' : World} (_ : LinkAt L lb st R C W) (hb : Below W.heap.size W V) (hk : LOut L lb R V st' W') : LOut L lb R W st' W' := by
  obtain ⟨R', C', h1, h2⟩ := hk
  exact ⟨R', C', h1, (Kept.of_below lb R hb).trans h2⟩

set_option maxHeartbeats 4000000 in
set_option maxRecDepth 100000 in
theorem does_0 (L lb : Nat) (st : Lk) (kd who i : Int) (m : ByteArray) (R : Nat → Option Addr) (C : Nat → Nat) (W : World) (hi : Inv st) (hl : LinkAt L lb st R C W) (hL : L ≤ W.heap.size) (h : kd = 0) :
    Calls Try.prog 20 #[.pointer (some ⟨lb, 0, none⟩), .agg #[.int .i64 kd, .int .i64 who, .int .i64 i, .string m]] W fun e W' => e = .returned (.int .i64 (if who = 0 ∨ who = 1 then sendK st who.toNat m else (st, 1)).2) ∧ LOut L lb R W (if who = 0 ∨ who = 1 then sendK st who.toNat m else (st, 1)).1 W' := by
  subst h
  obtain ⟨V, hV⟩ : ∃ V, V = W.alloc (.cells #[.int .i64 0, .int .i64 who, .int .i64 i, .string m] 27) := ⟨_, rfl⟩
  have hbV : Below W.heap.size W V := by rw [hV]; exact (Below.refl _ W).alloc (Nat.le_refl _) _
  have hbk : Bk V W.heap.size 27 #[.int .i64 0, .int .i64 who, .int .i64 i, .string m] := by rw [hV]; exact Bk.new _ _ _
  have HLV := Lib.hid (hl.over hbV)
  have HLW := Lib.hid hl
  have HBV := Lib.hid hbV
  have hLV : L ≤ V.heap.size := Nat.le_trans hL hbV.size
  have q0 : V.cell? ⟨W.heap.size, 0, none⟩ = some (.int .i64 0) := by rw [hbk.cell]; rfl
  have q1 : V.cell? ⟨W.heap.size, 1, none⟩ = some (.int .i64 who) := by rw [hbk.cell]; rfl
  have q2 : V.cell? ⟨W.heap.size, 2, none⟩ = some (.int .i64 i) := by rw [hbk.cell]; rfl
  have q3 : V.cell? ⟨W.heap.size, 3, none⟩ = some (.string m) := by rw [hbk.cell]; rfl
  have HV := Lib.hid hV
  obtain ⟨rr, hrr⟩ : ∃ rr, rr = (if who = 0 ∨ who = 1 then sendK st who.toNat m else (st, 1)) := ⟨_, rfl⟩
  have hc := dsend L lb st R C V who m hi (hl.over hbV) hLV
  rw [← hrr] at hc ⊢
  have HC := Lib.hid hc
  clear hrr hc
  clear hl hbV hbk hi hV
  go_enter Try.func20, Try.ntmps20
  go_upto_region 1 with (fail)
  rw [← HV.out]
  clear HV
  go_wp2_with fail
  refine HC.out.mono ?_
  rintro e w' ⟨rfl, hk⟩
  have HK := Lib.hid (HLW.out.lout HBV.out hk)
  clear hk
  go_wp2
  go_ret
  exact ⟨rfl, HK.out⟩

set_option maxHeartbeats 4000000 in
set_option maxRecDepth 100000 in
theorem does_1 (L lb : Nat) (st : Lk) (kd who i : Int) (m : ByteArray) (R : Nat → Option Addr) (C : Nat → Nat) (W : World) (hi : Inv st) (hl : LinkAt L lb st R C W) (hL : L ≤ W.heap.size) (h : kd = 1) :
    Calls Try.prog 20 #[.pointer (some ⟨lb, 0, none⟩), .agg #[.int .i64 kd, .int .i64 who, .int .i64 i, .string m]] W fun e W' => e = .returned (.int .i64 (if who = 0 ∨ who = 1 then tickK st who.toNat else (st, 1)).2) ∧ LOut L lb R W (if who = 0 ∨ who = 1 then tickK st who.toNat else (st, 1)).1 W' := by
  subst h
  obtain ⟨V, hV⟩ : ∃ V, V = W.alloc (.cells #[.int .i64 1, .int .i64 who, .int .i64 i, .string m] 27) := ⟨_, rfl⟩
  have hbV : Below W.heap.size W V := by rw [hV]; exact (Below.refl _ W).alloc (Nat.le_refl _) _
  have hbk : Bk V W.heap.size 27 #[.int .i64 1, .int .i64 who, .int .i64 i, .string m] := by rw [hV]; exact Bk.new _ _ _
  have HLV := Lib.hid (hl.over hbV)
  have HLW := Lib.hid hl
  have HBV := Lib.hid hbV
  have hLV : L ≤ V.heap.size := Nat.le_trans hL hbV.size
  have q0 : V.cell? ⟨W.heap.size, 0, none⟩ = some (.int .i64 1) := by rw [hbk.cell]; rfl
  have q1 : V.cell? ⟨W.heap.size, 1, none⟩ = some (.int .i64 who) := by rw [hbk.cell]; rfl
  have q2 : V.cell? ⟨W.heap.size, 2, none⟩ = some (.int .i64 i) := by rw [hbk.cell]; rfl
  have q3 : V.cell? ⟨W.heap.size, 3, none⟩ = some (.string m) := by rw [hbk.cell]; rfl
  have HV := Lib.hid hV
  obtain ⟨rr, hrr⟩ : ∃ rr, rr = (if who = 0 ∨ who = 1 then tickK st who.toNat else (st, 1)) := ⟨_, rfl⟩
  have hc := dtick L lb st R C V who hi (hl.over hbV) hLV
  rw [← hrr] at hc ⊢
  have HC := Lib.hid hc
  clear hrr hc
  clear hl hbV hbk hi hV
  go_enter Try.func20, Try.ntmps20
  go_upto_region 1 with (fail)
  rw [← HV.out]
  clear HV
  go_wp2_with fail
  refine HC.out.mono ?_
  rintro e w' ⟨rfl, hk⟩
  have HK := Lib.hid (HLW.out.lout HBV.out hk)
  clear hk
  go_wp2
  go_ret
  exact ⟨rfl, HK.out⟩

set_option maxHeartbeats 4000000 in
set_option maxRecDepth 100000 in
theorem does_2 (L lb : Nat) (st : Lk) (kd who i : Int) (m : ByteArray) (R : Nat → Option Addr) (C : Nat → Nat) (W : World) (hi : Inv st) (hl : LinkAt L lb st R C W) (hL : L ≤ W.heap.size) (h : kd = 2) :
    Calls Try.prog 20 #[.pointer (some ⟨lb, 0, none⟩), .agg #[.int .i64 kd, .int .i64 who, .int .i64 i, .string m]] W fun e W' => e = .returned (.int .i64 (if who = 0 ∨ who = 1 then comeK st who.toNat i false else (st, 1)).2) ∧ LOut L lb R W (if who = 0 ∨ who = 1 then comeK st who.toNat i false else (st, 1)).1 W' := by
  subst h
  obtain ⟨V, hV⟩ : ∃ V, V = W.alloc (.cells #[.int .i64 2, .int .i64 who, .int .i64 i, .string m] 27) := ⟨_, rfl⟩
  have hbV : Below W.heap.size W V := by rw [hV]; exact (Below.refl _ W).alloc (Nat.le_refl _) _
  have hbk : Bk V W.heap.size 27 #[.int .i64 2, .int .i64 who, .int .i64 i, .string m] := by rw [hV]; exact Bk.new _ _ _
  have HLV := Lib.hid (hl.over hbV)
  have HLW := Lib.hid hl
  have HBV := Lib.hid hbV
  have hLV : L ≤ V.heap.size := Nat.le_trans hL hbV.size
  have q0 : V.cell? ⟨W.heap.size, 0, none⟩ = some (.int .i64 2) := by rw [hbk.cell]; rfl
  have q1 : V.cell? ⟨W.heap.size, 1, none⟩ = some (.int .i64 who) := by rw [hbk.cell]; rfl
  have q2 : V.cell? ⟨W.heap.size, 2, none⟩ = some (.int .i64 i) := by rw [hbk.cell]; rfl
  have q3 : V.cell? ⟨W.heap.size, 3, none⟩ = some (.string m) := by rw [hbk.cell]; rfl
  have HV := Lib.hid hV
  obtain ⟨rr, hrr⟩ : ∃ rr, rr = (if who = 0 ∨ who = 1 then comeK st who.toNat i false else (st, 1)) := ⟨_, rfl⟩
  have hc := dcome L lb st R C V who i false hi (hl.over hbV) hLV
  rw [← hrr] at hc ⊢
  have HC := Lib.hid hc
  clear hrr hc
  clear hl hbV hbk hi hV
  go_enter Try.func20, Try.ntmps20
  go_upto_region 1 with (fail)
  rw [← HV.out]
  clear HV
  go_wp2_with fail
  refine HC.out.mono ?_
  rintro e w' ⟨rfl, hk⟩
  have HK := Lib.hid (HLW.out.lout HBV.out hk)
  clear hk
  go_wp2
  go_ret
  exact ⟨rfl, HK.out⟩

set_option maxHeartbeats 4000000 in
set_option maxRecDepth 100000 in
theorem does_3 (L lb : Nat) (st : Lk) (kd who i : Int) (m : ByteArray) (R : Nat → Option Addr) (C : Nat → Nat) (W : World) (hi : Inv st) (hl : LinkAt L lb st R C W) (hL : L ≤ W.heap.size) (h : kd = 3) :
    Calls Try.prog 20 #[.pointer (some ⟨lb, 0, none⟩), .agg #[.int .i64 kd, .int .i64 who, .int .i64 i, .string m]] W fun e W' => e = .returned (.int .i64 (if who = 0 ∨ who = 1 then comeK st who.toNat i true else (st, 1)).2) ∧ LOut L lb R W (if who = 0 ∨ who = 1 then comeK st who.toNat i true else (st, 1)).1 W' := by
  subst h
  obtain ⟨V, hV⟩ : ∃ V, V = W.alloc (.cells #[.int .i64 3, .int .i64 who, .int .i64 i, .string m] 27) := ⟨_, rfl⟩
  have hbV : Below W.heap.size W V := by rw [hV]; exact (Below.refl _ W).alloc (Nat.le_refl _) _
  have hbk : Bk V W.heap.size 27 #[.int .i64 3, .int .i64 who, .int .i64 i, .string m] := by rw [hV]; exact Bk.new _ _ _
  have HLV := Lib.hid (hl.over hbV)
  have HLW := Lib.hid hl
  have HBV := Lib.hid hbV
  have hLV : L ≤ V.heap.size := Nat.le_trans hL hbV.size
  have q0 : V.cell? ⟨W.heap.size, 0, none⟩ = some (.int .i64 3) := by rw [hbk.cell]; rfl
  have q1 : V.cell? ⟨W.heap.size, 1, none⟩ = some (.int .i64 who) := by rw [hbk.cell]; rfl
  have q2 : V.cell? ⟨W.heap.size, 2, none⟩ = some (.int .i64 i) := by rw [hbk.cell]; rfl
  have q3 : V.cell? ⟨W.heap.size, 3, none⟩ = some (.string m) := by rw [hbk.cell]; rfl
  have HV := Lib.hid hV
  obtain ⟨rr, hrr⟩ : ∃ rr, rr = (if who = 0 ∨ who = 1 then comeK st who.toNat i true else (st, 1)) := ⟨_, rfl⟩
  have hc := dcome L lb st R C V who i true hi (hl.over hbV) hLV
  rw [← hrr] at hc ⊢
  have HC := Lib.hid hc
  clear hrr hc
  clear hl hbV hbk hi hV
  go_enter Try.func20, Try.ntmps20
  go_upto_region 1 with (fail)
  rw [← HV.out]
  clear HV
  go_wp2_with fail
  refine HC.out.mono ?_
  rintro e w' ⟨rfl, hk⟩
  have HK := Lib.hid (HLW.out.lout HBV.out hk)
  clear hk
  go_wp2
  go_ret
  exact ⟨rfl, HK.out⟩

set_option maxHeartbeats 4000000 in
set_option maxRecDepth 100000 in
theorem does_4 (L lb : Nat) (st : Lk) (kd who i : Int) (m : ByteArray) (R : Nat → Option Addr) (C : Nat → Nat) (W : World) (hi : Inv st) (hl : LinkAt L lb st R C W) (hL : L ≤ W.heap.size) (h : kd = 4) :
    Calls Try.prog 20 #[.pointer (some ⟨lb, 0, none⟩), .agg #[.int .i64 kd, .int .i64 who, .int .i64 i, .string m]] W fun e W' => e = .returned (.int .i64 (if who = 0 ∨ who = 1 then loseK st who.toNat i else (st, 1)).2) ∧ LOut L lb R W (if who = 0 ∨ who = 1 then loseK st who.toNat i else (st, 1)).1 W' := by
  subst h
  obtain ⟨V, hV⟩ : ∃ V, V = W.alloc (.cells #[.int .i64 4, .int .i64 who, .int .i64 i, .string m] 27) := ⟨_, rfl⟩
  have hbV : Below W.heap.size W V := by rw [hV]; exact (Below.refl _ W).alloc (Nat.le_refl _) _
  have hbk : Bk V W.heap.size 27 #[.int .i64 4, .int .i64 who, .int .i64 i, .string m] := by rw [hV]; exact Bk.new _ _ _
  have HLV := Lib.hid (hl.over hbV)
  have HLW := Lib.hid hl
  have HBV := Lib.hid hbV
  have hLV : L ≤ V.heap.size := Nat.le_trans hL hbV.size
  have q0 : V.cell? ⟨W.heap.size, 0, none⟩ = some (.int .i64 4) := by rw [hbk.cell]; rfl
  have q1 : V.cell? ⟨W.heap.size, 1, none⟩ = some (.int .i64 who) := by rw [hbk.cell]; rfl
  have q2 : V.cell? ⟨W.heap.size, 2, none⟩ = some (.int .i64 i) := by rw [hbk.cell]; rfl
  have q3 : V.cell? ⟨W.heap.size, 3, none⟩ = some (.string m) := by rw [hbk.cell]; rfl
  have HV := Lib.hid hV
  obtain ⟨rr, hrr⟩ : ∃ rr, rr = (if who = 0 ∨ who = 1 then loseK st who.toNat i else (st, 1)) := ⟨_, rfl⟩
  have hc := dlose L lb st R C V who i hi (hl.over hbV) hLV
  rw [← hrr] at hc ⊢
  have HC := Lib.hid hc
  clear hrr hc
  clear hl hbV hbk hi hV
  go_enter Try.func20, Try.ntmps20
  go_upto_region 1 with (fail)
  rw [← HV.out]
  clear HV
  go_wp2_with fail
  refine HC.out.mono ?_
  rintro e w' ⟨rfl, hk⟩
  have HK := Lib.hid (HLW.out.lout HBV.out hk)
  clear hk
  go_wp2
  go_ret
  exact ⟨rfl, HK.out⟩

set_option maxHeartbeats 4000000 in
set_option maxRecDepth 100000 in
theorem does_5 (L lb : Nat) (st : Lk) (kd who i : Int) (m : ByteArray) (R : Nat → Option Addr) (C : Nat → Nat) (W : World) (hi : Inv st) (hl : LinkAt L lb st R C W) (hL : L ≤ W.heap.size) (h : kd = 5) :
    Calls Try.prog 20 #[.pointer (some ⟨lb, 0, none⟩), .agg #[.int .i64 kd, .int .i64 who, .int .i64 i, .string m]] W fun e W' => e = .returned (.int .i64 (((roundS FU st).getD st, (0 : Int))).2) ∧ LOut L lb R W (((roundS FU st).getD st, (0 : Int))).1 W' := by
  subst h
  obtain ⟨V, hV⟩ : ∃ V, V = W.alloc (.cells #[.int .i64 5, .int .i64 who, .int .i64 i, .string m] 27) := ⟨_, rfl⟩
  have hbV : Below W.heap.size W V := by rw [hV]; exact (Below.refl _ W).alloc (Nat.le_refl _) _
  have hbk : Bk V W.heap.size 27 #[.int .i64 5, .int .i64 who, .int .i64 i, .string m] := by rw [hV]; exact Bk.new _ _ _
  have HLV := Lib.hid (hl.over hbV)
  have HLW := Lib.hid hl
  have HBV := Lib.hid hbV
  have hLV : L ≤ V.heap.size := Nat.le_trans hL hbV.size
  have q0 : V.cell? ⟨W.heap.size, 0, none⟩ = some (.int .i64 5) := by rw [hbk.cell]; rfl
  have q1 : V.cell? ⟨W.heap.size, 1, none⟩ = some (.int .i64 who) := by rw [hbk.cell]; rfl
  have q2 : V.cell? ⟨W.heap.size, 2, none⟩ = some (.int .i64 i) := by rw [hbk.cell]; rfl
  have q3 : V.cell? ⟨W.heap.size, 3, none⟩ = some (.string m) := by rw [hbk.cell]; rfl
  have HV := Lib.hid hV
  obtain ⟨rr, hrr⟩ : ∃ rr, rr = (roundS FU st).getD st := ⟨_, rfl⟩
  have hc := dround L lb st R C V hi (hl.over hbV) hLV
  rw [← hrr] at hc ⊢
  have HC := Lib.hid hc
  clear hrr hc
  clear hl hbV hbk hi hV
  go_enter Try.func20, Try.ntmps20
  go_upto_region 1 with (fail)
  rw [← HV.out]
  clear HV
  go_wp2_with fail
  refine HC.out.mono ?_
  rintro e w' ⟨rfl, hk⟩
  have HK := Lib.hid (HLW.out.lout HBV.out hk)
  clear hk
  go_wp2
  go_ret
  exact ⟨rfl, HK.out⟩

set_option maxHeartbeats 4000000 in
set_option maxRecDepth 100000 in
theorem does_6 (L lb : Nat) (st : Lk) (kd who i : Int) (m : ByteArray) (R : Nat → Option Addr) (C : Nat → Nat) (W : World) (hl : LinkAt L lb st R C W) (h : ¬ (kd = 0 ∨ kd = 1 ∨ kd = 2 ∨ kd = 3 ∨ kd = 4 ∨ kd = 5)) :
    Calls Try.prog 20 #[.pointer (some ⟨lb, 0, none⟩), .agg #[.int .i64 kd, .int .i64 who, .int .i64 i, .string m]] W fun e W' => e = .returned (.int .i64 ((st, (0 : Int))).2) ∧ LOut L lb R W ((st, (0 : Int))).1 W' := by
  have b0 : (kd == 0) = false := by rw [beq_eq_false_iff_ne]; omega
  have b1 : (kd == 1) = false := by rw [beq_eq_false_iff_ne]; omega
  have b2 : (kd == 2) = false := by rw [beq_eq_false_iff_ne]; omega
  have b3 : (kd == 3) = false := by rw [beq_eq_false_iff_ne]; omega
  have b4 : (kd == 4) = false := by rw [beq_eq_false_iff_ne]; omega
  have b5 : (kd == 5) = false := by rw [beq_eq_false_iff_ne]; omega
  clear h
  obtain ⟨V, hV⟩ : ∃ V, V = W.alloc (.cells #[.int .i64 kd, .int .i64 who, .int .i64 i, .string m] 27) := ⟨_, rfl⟩
  have hbV : Below W.heap.size W V := by rw [hV]; exact (Below.refl _ W).alloc (Nat.le_refl _) _
  have hbk : Bk V W.heap.size 27 #[.int .i64 kd, .int .i64 who, .int .i64 i, .string m] := by rw [hV]; exact Bk.new _ _ _
  have HLV := Lib.hid (hl.over hbV)
  have HLW := Lib.hid hl
  have HBV := Lib.hid hbV
  have q0 : V.cell? ⟨W.heap.size, 0, none⟩ = some (.int .i64 kd) := by rw [hbk.cell]; rfl
  have q1 : V.cell? ⟨W.heap.size, 1, none⟩ = some (.int .i64 who) := by rw [hbk.cell]; rfl
  have q2 : V.cell? ⟨W.heap.size, 2, none⟩ = some (.int .i64 i) := by rw [hbk.cell]; rfl
  have q3 : V.cell? ⟨W.heap.size, 3, none⟩ = some (.string m) := by rw [hbk.cell]; rfl
  have HV := Lib.hid hV
  clear hl hbV hbk hV
  go_enter Try.func20, Try.ntmps20
  go_upto_region 1 with (fail)
  rw [← HV.out]
  clear HV
  go_wp2
  go_ret
  exact ⟨rfl, HLW.out.lout HBV.out (LOut.refl HLV.out)⟩

/-- A move of the link. -/
theorem does_any (L lb : Nat) (st : Lk) (x : Fr) (R : Nat → Option Addr) (C : Nat → Nat) (W : World) (hi : Inv st) (hl : LinkAt L lb st R C W) (hL : L ≤ W.heap.size) :
    Calls Try.prog 20 #[.pointer (some ⟨lb, 0, none⟩), x.val] W fun e W' => e = .returned (.int .i64 (doesK st x).2) ∧ LOut L lb R W (doesK st x).1 W' := by
  obtain ⟨kd, who, i, m⟩ := x
  unfold Fr.val
  dsimp only
  by_cases h0 : kd = 0
  · have e : doesK st ⟨kd, who, i, m⟩ = (if who = 0 ∨ who = 1 then sendK st who.toNat m else (st, 1)) := by unfold doesK; rw [if_pos h0]
    rw [e]
    exact does_0 L lb st kd who i m R C W hi hl hL h0
  by_cases h1 : kd = 1
  · have e : doesK st ⟨kd, who, i, m⟩ = (if who = 0 ∨ who = 1 then tickK st who.toNat else (st, 1)) := by unfold doesK; rw [if_neg h0, if_pos h1]
    rw [e]
    exact does_1 L lb st kd who i m R C W hi hl hL h1
  by_cases h2 : kd = 2
  · have e : doesK st ⟨kd, who, i, m⟩ = (if who = 0 ∨ who = 1 then comeK st who.toNat i false else (st, 1)) := by unfold doesK; rw [if_neg h0, if_neg h1, if_pos (.inl h2)]; dsimp only; rw [show decide (kd = 3) = false from decide_eq_false (by omega)]
    rw [e]
    exact does_2 L lb st kd who i m R C W hi hl hL h2
  by_cases h3 : kd = 3
  · have e : doesK st ⟨kd, who, i, m⟩ = (if who = 0 ∨ who = 1 then comeK st who.toNat i true else (st, 1)) := by unfold doesK; rw [if_neg h0, if_neg h1, if_pos (.inr h3)]; dsimp only; rw [show decide (kd = 3) = true from decide_eq_true h3]
    rw [e]
    exact does_3 L lb st kd who i m R C W hi hl hL h3
  by_cases h4 : kd = 4
  · have e : doesK st ⟨kd, who, i, m⟩ = (if who = 0 ∨ who = 1 then loseK st who.toNat i else (st, 1)) := by unfold doesK; rw [if_neg h0, if_neg h1, if_neg (by show ¬ (kd = 2 ∨ kd = 3); omega), if_pos h4]
    rw [e]
    exact does_4 L lb st kd who i m R C W hi hl hL h4
  by_cases h5 : kd = 5
  · have e : doesK st ⟨kd, who, i, m⟩ = (((roundS FU st).getD st, (0 : Int))) := by unfold doesK; rw [if_neg h0, if_neg h1, if_neg (by show ¬ (kd = 2 ∨ kd = 3); omega), if_neg h4, if_pos h5]
    rw [e]
    exact does_5 L lb st kd who i m R C W hi hl hL h5
  have e : doesK st ⟨kd, who, i, m⟩ = ((st, (0 : Int))) := by unfold doesK; rw [if_neg h0, if_neg h1, if_neg (by show ¬ (kd = 2 ∨ kd = 3); omega), if_neg h4, if_neg h5]
  rw [e]
  exact does_6 L lb st kd who i m R C W hl (by omega)


set_option maxHeartbeats 4000000 in
set_option maxRecDepth 100000 in
theorem open_any (L lb : Nat) (st : Lk) (R : Nat → Option Addr) (C : Nat → Nat) (W : World) (hi : Inv st) (hl : LinkAt L lb st R C W) :
    Calls Try.prog 21 #[.pointer (some ⟨lb, 0, none⟩)] W fun e w' => e = .returned (.int .i64 (openK st)) ∧ Below W.heap.size W w' := by
  have t0 := hi.1.half.tk
  have t1 := hi.2.half.tk
  have a0 := hi.1.sent
  have a1 := hi.2.sent
  have l0 := hi.1.half.pre.length_le
  have l1 := hi.2.half.pre.length_le
  have q0 : W.cell? ⟨lb, 0, none⟩ = some (.slice (R 0) (st.e 0).sent.length (C 0)) := by rw [hl.bk.cell]; simp [lkCells]
  have q3 : W.cell? ⟨lb, 3, none⟩ = some (.slice (R 1) (st.e 1).sent.length (C 1)) := by rw [hl.bk.cell]; simp [lkCells]
  have q8 : W.cell? ⟨lb, 8, none⟩ = some (.slice (R 4) (st.g 0).length (C 4)) := by rw [hl.bk.cell]; simp [lkCells]
  have q9 : W.cell? ⟨lb, 9, none⟩ = some (.slice (R 5) (st.g 1).length (C 5)) := by rw [hl.bk.cell]; simp [lkCells]
  have hlb := hl.bk.lt
  have HO : Hid (openK st = ((st.e 0).sent.length : Int) - (st.g 1).length + (st.e 1).sent.length - (st.g 0).length) := by
    unfold openK
    rw [t0, t1]
    exact Lib.hid rfl
  generalize (st.e 0).sent.length = n0 at *
  generalize (st.e 1).sent.length = n1 at *
  generalize (st.g 0).length = k0 at *
  generalize (st.g 1).length = k1 at *
  clear hl hi t0 t1
  have w0 : IntKind.i64.wrap (n0 : Int) = (n0 : Int) := IntWalk.i64_in _ (by omega)
  have w1 : IntKind.i64.wrap ((n0 : Int) - k1) = (n0 : Int) - k1 := IntWalk.i64_in _ (by omega)
  have w2 : IntKind.i64.wrap ((n0 : Int) - k1 + n1) = (n0 : Int) - k1 + n1 := IntWalk.i64_in _ (by omega)
  have w3 : IntKind.i64.wrap ((n0 : Int) - k1 + n1 - k0) = (n0 : Int) - k1 + n1 - k0 := IntWalk.i64_in _ (by omega)
  go_enter Try.func21, Try.ntmps21
  go_wp2
  go_loopw [3, 4] (fun v3 v4 wr => (∃ m, wr = W.drewN m) ∧ ((v4 = .int .i64 0 ∧ v3 = .int .i64 0) ∨ (v4 = .int .i64 1 ∧ v3 = .int .i64 ((n0 : Int) - k1)) ∨ (v4 = .int .i64 2 ∧ v3 = .int .i64 ((n0 : Int) - k1 + n1 - k0)))) (fun _ v4 _ => 2 - (intOf v4).toNat)
  case atStart => exact ⟨⟨0, rfl⟩, .inl ⟨rfl, rfl⟩⟩
  case round =>
    obtain ⟨⟨m, rfl⟩, h3⟩ := hrel
    rcases h3 with ⟨rfl, rfl⟩ | ⟨rfl, rfl⟩ | ⟨rfl, rfl⟩
    · go_wp2_with fail
      go_quiet (fail)
      go_wp2
      go_roundw
      case rel => exact ⟨⟨_, rfl⟩, .inr (.inl ⟨rfl, rfl⟩)⟩
      case measure => simp [intOf]
    · go_wp2_with fail
      go_quiet (fail)
      go_wp2
      go_roundw
      case rel => exact ⟨⟨_, rfl⟩, .inr (.inr ⟨rfl, rfl⟩)⟩
      case measure => simp [intOf]
    · go_wp2
      go_ret
      rw [HO.out]
      exact ⟨rfl, below_drewN (Below.refl _ _) _⟩

end Go.Proofs.Ytnbndhmdfheikaa.D
