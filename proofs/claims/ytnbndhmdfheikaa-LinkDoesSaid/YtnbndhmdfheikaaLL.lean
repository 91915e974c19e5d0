/- Walks of all and Round. By gen_ll.py. -/
import Derived.Test.YtnbndhmdfheikaaLA
import Derived.Test.YtnbndhmdfheikaaLK0f
import Derived.Test.YtnbndhmdfheikaaLK1f
import Derived.Deep.LoopGhost
namespace Go.Proofs.Ytnbndhmdfheikaa
open Go.RowKit

/-- What all does, at most so many frames; none: not enough. -/
def allS : Nat → Lk → Option Lk
  | 0, _ => none
  | n + 1, st => if (comeK st 0 0 false).2 = 0 then allS n (comeK st 0 0 false).1 else if (comeK (comeK st 0 0 false).1 1 0 false).2 = 0 then allS n (comeK (comeK st 0 0 false).1 1 0 false).1 else some (comeK (comeK st 0 0 false).1 1 0 false).1
/-- What the calls ask of a state. -/
structure Fits (st : Lk) : Prop where
  u0 : (st.u 0).length ≤ 4096
  u1 : (st.u 1).length ≤ 4096
  g0 : (st.g 0).length ≤ 1099511627776
  g1 : (st.g 1).length ≤ 1099511627776
  s0 : (st.e 0).sent.length ≤ maxLen
  s1 : (st.e 1).sent.length ≤ maxLen

set_option maxHeartbeats 8000000 in
set_option maxRecDepth 100000 in
theorem all_any (P : Lk → Prop) (hfit : ∀ st, P st → Fits st) (h0 : ∀ st, P st → P (comeK st 0 0 false).1) (h1 : ∀ st, P st → P (comeK st 1 0 false).1)
    (L lb n : Nat) (st st9 : Lk) (R : Nat → Option Addr) (C : Nat → Nat) (W : World) (hl : LinkAt L lb st R C W) (hp : P st) (hall : allS n st = some st9) (hLW : L ≤ W.heap.size) :
    Calls Try.prog 37 #[.pointer (some ⟨lb, 0, none⟩)] W fun e W' => e = .returned (.tuple #[]) ∧ LOut L lb R W st9 W' := by
  have HP0 := Lib.hid (And.intro hfit (And.intro h0 h1))
  have HL0 := Lib.hid hl
  have HP := Lib.hid hp
  have HALL := Lib.hid hall
  clear hfit h0 h1 hl hp hall
  go_enter Try.func37, Try.ntmps37
  go_wp2
  go_step3
  go_wp2
  go_step3
  go_wp2
  go_loopg [3] n (fun g _ wx => ∃ (s : Lk) (R' : Nat → Option Addr) (C' : Nat → Nat), Hid (P s) ∧ Hid (allS g s = some st9) ∧ Hid (LinkAt L lb s R' C' wx) ∧ Hid (Kept lb R R' W wx))
  case atStart => exact ⟨st, R, C, HP, HALL, HL0, Kept.refl _ _ _⟩
  case round =>
    obtain ⟨s, R1, C1, HPs, HAs, HLs, HKs⟩ := hrel
    cases gk with
    | zero => exact absurd HAs.out (by simp [allS])
    | succ g =>
    have HSZ : Hid (L ≤ wr.heap.size) := Nat.le_trans hLW HKs.out.size
    obtain ⟨r0, hr0⟩ : ∃ r0, r0 = comeK s 0 0 false := ⟨_, rfl⟩
    obtain ⟨r1, hr1⟩ : ∃ r1, r1 = comeK r0.1 1 0 false := ⟨_, rfl⟩
    have HAS : Hid ((if r0.2 = 0 then allS g r0.1 else if r1.2 = 0 then allS g r1.1 else some r1.1) = some st9) := by rw [hr1, hr0]; exact HAs.out
    have HP1 : Hid (P r0.1) := by rw [hr0]; exact HP0.out.2.1 _ HPs.out
    have HP2 : Hid (P r1.1) := by rw [hr1]; exact HP0.out.2.2 _ HP1.out
    have HR0 := Lib.hid hr0
    have HR1 := Lib.hid hr1
    clear hr0 hr1 HAs
    obtain ⟨s0, e0⟩ := r0
    obtain ⟨s1, e1⟩ := r1
    dsimp only at HAS HP1 HP2 HR1
    go_wp2
    go_loopg [3] 2 (fun g2 s3 wy => ∃ (R' : Nat → Option Addr) (C' : Nat → Nat), Hid (Kept lb R R' W wy) ∧ ((g2 = 2 ∧ s3 = .int .i64 0 ∧ Hid (LinkAt L lb s R' C' wy)) ∨ (g2 = 1 ∧ s3 = .int .i64 1 ∧ Hid (e0 ≠ 0) ∧ Hid (LinkAt L lb s0 R' C' wy)) ∨ (g2 = 0 ∧ s3 = .int .i64 2 ∧ Hid (e0 ≠ 0) ∧ Hid (e1 ≠ 0) ∧ Hid (LinkAt L lb s1 R' C' wy))))
    case atStart => exact ⟨R1, C1, HKs, .inl ⟨rfl, rfl, HLs⟩⟩
    case round =>
      obtain ⟨R2, C2, HK2, h3⟩ := hrel
      rename World => wy
      rcases h3 with ⟨rfl, rfl, HL2⟩ | ⟨rfl, rfl, HE0, HL2⟩ | ⟨rfl, rfl, HE0, HE1, HL2⟩
      · have HC : Hid (Calls Try.prog 16 #[.pointer (some ⟨lb, 0, none⟩), .int .i64 0, .int .i64 0, .bool false] wy fun e W' => e = .returned (.int .i64 e0) ∧ LOut L lb R2 wy s0 W') := by
          have hf := HP0.out.1 _ HPs.out
          have h := come_0_false L lb s R2 C2 wy 0 HL2.out hf.u0 hf.u1 hf.g0 (Nat.le_trans hLW HK2.out.size) hf.s0
          rwa [← HR0.out] at h
        go_wp2_with fail
        refine HC.out.mono ?_
        rintro e w3 ⟨rfl, R3, C3, hl3, hk3⟩
        have HL3 := Lib.hid hl3
        have HK3 : Hid (Kept lb R R3 W w3) := HK2.out.trans hk3
        clear hl3 hk3
        by_cases he : e0 = 0
        · have HAS2 : Hid (allS g s0 = some st9) := by have := HAS.out; rwa [if_pos he] at this
          have b1 : (e0 == 0) = true := by simpa using he
          subst he
          go_wp2_with fail
          go_roundg g
          case measure => omega
          case rel => exact ⟨s0, R3, C3, HP1, HAS2, HL3, HK3⟩
        · have b1 : (e0 == 0) = false := by simpa using he
          have HE := Lib.hid he
          clear he
          go_wp2_with fail
          go_roundg 1
          case measure => omega
          case rel => exact ⟨R3, C3, HK3, .inr (.inl ⟨rfl, rfl, HE, HL3⟩)⟩
      · have HC : Hid (Calls Try.prog 16 #[.pointer (some ⟨lb, 0, none⟩), .int .i64 1, .int .i64 0, .bool false] wy fun e W' => e = .returned (.int .i64 e1) ∧ LOut L lb R2 wy s1 W') := by
          have hf := HP0.out.1 _ HP1.out
          have h := come_1_false L lb s0 R2 C2 wy 0 HL2.out hf.u1 hf.u0 hf.g1 (Nat.le_trans hLW HK2.out.size) hf.s1
          rwa [← HR1.out] at h
        go_wp2_with fail
        refine HC.out.mono ?_
        rintro e w3 ⟨rfl, R3, C3, hl3, hk3⟩
        have HL3 := Lib.hid hl3
        have HK3 : Hid (Kept lb R R3 W w3) := HK2.out.trans hk3
        clear hl3 hk3
        by_cases he : e1 = 0
        · have HAS2 : Hid (allS g s1 = some st9) := by have := HAS.out; rwa [if_neg HE0.out, if_pos he] at this
          have b1 : (e1 == 0) = true := by simpa using he
          subst he
          go_wp2_with fail
          go_roundg g
          case measure => omega
          case rel => exact ⟨s1, R3, C3, HP2, HAS2, HL3, HK3⟩
        · have b1 : (e1 == 0) = false := by simpa using he
          have HE := Lib.hid he
          clear he
          go_wp2_with fail
          go_roundg 0
          case measure => omega
          case rel => exact ⟨R3, C3, HK3, .inr (.inr ⟨rfl, rfl, HE0, HE, HL3⟩)⟩
      · have HAS2 : Hid (s1 = st9) := by have := HAS.out; rw [if_neg HE0.out, if_neg HE1.out] at this; exact Option.some.inj this
        go_wp2_with fail
        try rw [Exit.noGoto_ret]
        refine bodyPost_ret (v := .tuple #[]) (by simp [results, Try.results37, go_sem]) rfl ⟨rfl, R2, C2, by rw [← HAS2.out]; exact HL2.out, HK2.out⟩

/-- What Round does. -/
def roundS (n : Nat) (st : Lk) : Option Lk := (allS n st).bind fun s1 => allS n (tickK (tickK s1 0).1 1).1

set_option maxHeartbeats 8000000 in
set_option maxRecDepth 100000 in
theorem round_any (P : Lk → Prop) (hfit : ∀ st, P st → Fits st) (h0 : ∀ st, P st → P (comeK st 0 0 false).1) (h1 : ∀ st, P st → P (comeK st 1 0 false).1) (t0 : ∀ st, P st → P (tickK st 0).1) (t1 : ∀ st, P st → P (tickK st 1).1)
    (hP : ∀ n st st9, P st → allS n st = some st9 → P st9)
    (L lb n : Nat) (st st9 : Lk) (R : Nat → Option Addr) (C : Nat → Nat) (W : World) (hl : LinkAt L lb st R C W) (hp : P st) (hall : roundS n st = some st9) (hLW : L ≤ W.heap.size) :
    Calls Try.prog 22 #[.pointer (some ⟨lb, 0, none⟩)] W fun e W' => e = .returned (.tuple #[]) ∧ LOut L lb R W st9 W' := by
  obtain ⟨s1, hs1, hall2⟩ : ∃ s1, allS n st = some s1 ∧ allS n (tickK (tickK s1 0).1 1).1 = some st9 := by
    unfold roundS at hall
    cases h : allS n st with
    | none => rw [h] at hall; cases hall
    | some s1 => rw [h] at hall; exact ⟨s1, rfl, hall⟩
  have hp1 := hP n st s1 hp hs1
  have hp2 := t0 _ hp1
  have hp3 := t1 _ hp2
  have HA1 := Lib.hid (all_any P hfit h0 h1 L lb n st s1 R C W hl hp hs1 hLW)
  have HA2 : Hid (∀ R C V, LinkAt L lb (tickK (tickK s1 0).1 1).1 R C V → L ≤ V.heap.size → Calls Try.prog 37 #[.pointer (some ⟨lb, 0, none⟩)] V fun e W' => e = .returned (.tuple #[]) ∧ LOut L lb R V st9 W') := fun R C V hl hLV => all_any P hfit h0 h1 L lb n _ st9 R C V hl hp3 hall2 hLV
  have HT1 : Hid (∀ R C V, LinkAt L lb s1 R C V → L ≤ V.heap.size → Calls Try.prog 23 #[.pointer (some ⟨lb, 0, none⟩), .int .i64 0] V fun e W' => e = .returned (.int .i64 (tickK s1 0).2) ∧ LOut L lb R V (tickK s1 0).1 W') := fun R C V hl hLV => tick_0 L lb s1 R C V hl (hfit _ hp1).u1 hLV (hfit _ hp1).s0
  have HT2 : Hid (∀ R C V, LinkAt L lb (tickK s1 0).1 R C V → L ≤ V.heap.size → Calls Try.prog 23 #[.pointer (some ⟨lb, 0, none⟩), .int .i64 1] V fun e W' => e = .returned (.int .i64 (tickK (tickK s1 0).1 1).2) ∧ LOut L lb R V (tickK (tickK s1 0).1 1).1 W') := fun R C V hl hLV => tick_1 L lb _ R C V hl (hfit _ hp2).u0 hLV (hfit _ hp2).s1
  obtain ⟨⟨s2, e2⟩, hs2⟩ : ∃ r, r = tickK s1 0 := ⟨_, rfl⟩
  rw [← hs2] at HT1 HT2 HA2
  dsimp only at HT1 HT2 HA2
  obtain ⟨⟨s3, e3⟩, hs3⟩ : ∃ r, r = tickK s2 1 := ⟨_, rfl⟩
  rw [← hs3] at HT2 HA2
  dsimp only at HT2 HA2
  clear hs2 hs3 hp1 hp2 hp3 hs1 hall2 hall hl hp hfit h0 h1 t0 t1 hP
  go_enter Try.func22, Try.ntmps22
  go_wp2_with fail
  refine HA1.out.mono ?_
  rintro e w1 ⟨rfl, R1, C1, hl1, hk1⟩
  have HL1 := Lib.hid hl1
  have HK1 := Lib.hid hk1
  clear hl1 hk1 HA1
  go_wp2_with fail
  go_loopg [5] 2 (fun g2 s5 wy => ∃ (R' : Nat → Option Addr) (C' : Nat → Nat), Hid (Kept lb R R' W wy) ∧ ((g2 = 2 ∧ s5 = .int .i64 0 ∧ Hid (LinkAt L lb s1 R' C' wy)) ∨ (g2 = 1 ∧ s5 = .int .i64 1 ∧ Hid (LinkAt L lb s2 R' C' wy)) ∨ (g2 = 0 ∧ s5 = .int .i64 2 ∧ Hid (LinkAt L lb s3 R' C' wy))))
  case atStart => exact ⟨R1, C1, HK1, .inl ⟨rfl, rfl, HL1⟩⟩
  case round =>
    obtain ⟨R2, C2, HK2, h3⟩ := hrel
    rename World => wy
    have HSZ := Nat.le_trans hLW HK2.out.size
    rcases h3 with ⟨rfl, rfl, HL2⟩ | ⟨rfl, rfl, HL2⟩ | ⟨rfl, rfl, HL2⟩
    · go_wp2_with fail
      refine (HT1.out _ _ _ HL2.out HSZ).mono ?_
      rintro e w3 ⟨rfl, R3, C3, hl3, hk3⟩
      have HL3 := Lib.hid hl3
      have HK3 : Hid (Kept lb R R3 W w3) := HK2.out.trans hk3
      clear hl3 hk3
      go_wp2_with fail
      go_roundg 1
      case measure => omega
      case rel => exact ⟨R3, C3, HK3, .inr (.inl ⟨rfl, rfl, HL3⟩)⟩
    · go_wp2_with fail
      refine (HT2.out _ _ _ HL2.out HSZ).mono ?_
      rintro e w3 ⟨rfl, R3, C3, hl3, hk3⟩
      have HL3 := Lib.hid hl3
      have HK3 : Hid (Kept lb R R3 W w3) := HK2.out.trans hk3
      clear hl3 hk3
      go_wp2_with fail
      go_roundg 0
      case measure => omega
      case rel => exact ⟨R3, C3, HK3, .inr (.inr ⟨rfl, rfl, HL3⟩)⟩
    · go_wp2_with fail
      refine (HA2.out _ _ _ HL2.out HSZ).mono ?_
      rintro e w3 ⟨rfl, R3, C3, hl3, hk3⟩
      have HL3 := Lib.hid hl3
      have HK3 : Hid (Kept lb R R3 W w3) := HK2.out.trans hk3
      clear hl3 hk3
      go_wp2_with fail
      refine bodyPost_end (results_none rfl _ _ _) rfl ?_
      exact ⟨rfl, R3, C3, HL3.out, HK3.out⟩

end Go.Proofs.Ytnbndhmdfheikaa
