/- Walk of LinkMends. By gen_lm7.py. -/
import Derived.Test.YtnbndhmdfheikaaLOw
import Derived.Test.YtnbndhmdfheikaaLMp
namespace Go.Proofs.Ytnbndhmdfheikaa
open Go.RowKit

section
variable (B : Nat) (st : Lk) (R : Nat → Option Addr) (C : Nat → Nat)
theorem m_got_0 (n : Nat) (hi : Inv st) (hn : (st.g 0).length = n) (V : World) (hl : LinkAt B B st R C V) : Calls Try.prog 11 #[.pointer (some ⟨B, 0, none⟩), .int .i64 0] V fun e W' =>
    ∃ A c, e = .returned (.slice A n c) ∧ Below V.heap.size V W' :=
  (once_got_0 B st R C n hi hn V hl).mono fun _ _ ⟨A, c, h1, _, h2⟩ => ⟨A, c, h1, h2⟩
theorem m_side_0 (m : Nat) (kn : Int) (hi : Inv st) (hm : (st.e 0).sent.length = m) (hk : (st.e 0).known = kn) (V : World) (hl : LinkAt B B st R C V) : Calls Try.prog 12 #[.pointer (some ⟨B, 0, none⟩), .int .i64 0] V fun e W' =>
    ∃ A c tk, e = .returned (.agg #[.slice A m c, .int .i64 tk, .int .i64 kn]) ∧ Below V.heap.size V W' := by
  have hs := hi.1.sent
  subst hm hk
  exact (side_0 B B st R C V hl (by omega)).mono fun _ _ ⟨A, c, h1, _, _, _, h2⟩ => ⟨A, c, _, h1, h2⟩
theorem m_under_0 (hi : Inv st) (hu : st.u 0 = []) (V : World) (hl : LinkAt B B st R C V) : Calls Try.prog 15 #[.pointer (some ⟨B, 0, none⟩), .int .i64 0] V fun e W' =>
    ∃ A c, e = .returned (.slice A 0 c) ∧ Below V.heap.size V W' := by
  have h := under_0 B B st R C V hl hi.fits.u0
  unfold OwnFrs at h
  rw [hu] at h
  exact h.mono fun _ _ ⟨A, c, h1, _, _, _, h2⟩ => ⟨A, c, h1, h2⟩
theorem m_got_1 (n : Nat) (hi : Inv st) (hn : (st.g 1).length = n) (V : World) (hl : LinkAt B B st R C V) : Calls Try.prog 11 #[.pointer (some ⟨B, 0, none⟩), .int .i64 1] V fun e W' =>
    ∃ A c, e = .returned (.slice A n c) ∧ Below V.heap.size V W' :=
  (once_got_1 B st R C n hi hn V hl).mono fun _ _ ⟨A, c, h1, _, h2⟩ => ⟨A, c, h1, h2⟩
theorem m_side_1 (m : Nat) (kn : Int) (hi : Inv st) (hm : (st.e 1).sent.length = m) (hk : (st.e 1).known = kn) (V : World) (hl : LinkAt B B st R C V) : Calls Try.prog 12 #[.pointer (some ⟨B, 0, none⟩), .int .i64 1] V fun e W' =>
    ∃ A c tk, e = .returned (.agg #[.slice A m c, .int .i64 tk, .int .i64 kn]) ∧ Below V.heap.size V W' := by
  have hs := hi.2.sent
  subst hm hk
  exact (side_1 B B st R C V hl (by omega)).mono fun _ _ ⟨A, c, h1, _, _, _, h2⟩ => ⟨A, c, _, h1, h2⟩
theorem m_under_1 (hi : Inv st) (hu : st.u 1 = []) (V : World) (hl : LinkAt B B st R C V) : Calls Try.prog 15 #[.pointer (some ⟨B, 0, none⟩), .int .i64 1] V fun e W' =>
    ∃ A c, e = .returned (.slice A 0 c) ∧ Below V.heap.size V W' := by
  have h := under_1 B B st R C V hl hi.fits.u1
  unfold OwnFrs at h
  rw [hu] at h
  exact h.mono fun _ _ ⟨A, c, h1, _, _, _, h2⟩ => ⟨A, c, h1, h2⟩
end
theorem m_open (B : Nat) (st : Lk) (R : Nat → Option Addr) (C : Nat → Nat) (D : Nat) (hi : Inv st) (hD : openK st = D) (V : World) (hl : LinkAt B B st R C V) :
    Calls Try.prog 17 #[.pointer (some ⟨B, 0, none⟩)] V fun e w' => e = .returned (.int .i64 D) ∧ Below V.heap.size V w' := by
  have a := hi.1.sent
  have b := hi.2.sent
  have g0 := (good_parts hi.1.half.good).2.2.2
  have g1 := (good_parts hi.2.half.good).2.2.2
  rw [← hD]
  exact open_any B B st R C V hl (by omega) (by omega) ⟨g0.1, g0.2.1⟩ ⟨g1.1, g1.2.1⟩

/-- Between two Rounds. -/
def MSt (B : Nat) (x : Lk) (w : World) (r : Nat) (wr : World) : Prop := ∃ st R C, Rounds x r st ∧ LinkSt B st R C w wr
/-- Behind a Round: with the variable 'before'. -/
def MBk (B bb : Nat) (st : Lk) (R : Nat → Option Addr) (C : Nat → Nat) (n0 n1 : Nat) (w wr : World) : Prop := LinkSt B st R C w wr ∧ Bk wr bb 56 #[.int .i64 n0, .int .i64 n1]
theorem MBk.over {B bb : Nat} {st : Lk} {R : Nat → Option Addr} {C : Nat → Nat} {n0 n1 : Nat} {w V W : World} (h : MBk B bb st R C n0 n1 w V) (hb : Below V.heap.size V W) : MBk B bb st R C n0 n1 w W :=
  ⟨h.1.over hb, h.2.below hb h.2.lt⟩
/-- A Round, with 'before' beside it. -/
theorem m_round (B bb : Nat) (st : Lk) (R : Nat → Option Addr) (C : Nat → Nat) (n0 n1 : Nat) (w V0 V : World) (hi : Inv st) (h0 : LinkAt B B st R C V0) (hbb : V0.heap.size ≤ bb) (h : MBk B bb st R C n0 n1 w V) :
    ∃ st9, Mended st st9 ∧ Calls Try.prog 22 #[.pointer (some ⟨B, 0, none⟩)] V fun e W' => e = .returned (.tuple #[]) ∧ ∃ R' C', MBk B bb st9 R' C' n0 n1 w W' := by
  obtain ⟨st9, h9, hm⟩ := round_ends hi
  refine ⟨st9, hm, (round_inv B B FU st st9 R C V h.1.1 hi h9 h.1.2.2).mono fun _ _ ⟨he, R', C', hl, hk⟩ => ⟨he, R', C', ⟨hl, h.1.2.1.trans (hk.below h.1.1 h.1.2.2), Nat.le_trans h.1.2.2 hk.size⟩, ?_⟩⟩
  exact (hk.block bb h.2.lt fun hin => by have := (h0.blocks bb hin).2; omega).trans h.2

theorem field_known (A : Option Addr) (n c : Nat) (x y : Int) (w : World) : (Instr.field 33 (.agg #[.slice A n c, .int .i64 x, .int .i64 y]) 2).run Try.prog w = .ok (.int .i64 y) w := by kernel_rfl

set_option maxRecDepth 100000 in
set_option maxHeartbeats 8000000 in
theorem mends_walk (A0 : Option Addr) (N c0 : Nat) (list : List Fr) (w : World) (hnm : N ≤ maxLen) (hr : Rd w w.heap.size 4 A0 N (frs list)) :
    Calls Try.prog 7 #[.slice A0 N c0] w fun e w' => e = .returned (.bool true) ∧ Below w.heap.size w w' := by
  have hN : list.length = N := by have := hr.1; rw [frs_len] at this; omega
  have HR := Lib.hid hr
  have HNN := Lib.hid hN
  clear hr hN
  unfold maxLen at hnm
  go_enter Try.func7, Try.ntmps7
  go_wp2_with fail
  refine (wakes_any w).mono ?_
  rintro e w1 ⟨rfl, hb1⟩
  have HB1 := Lib.hid hb1
  clear hb1
  have hz1 : w.heap.size ≤ w1.heap.size := HB1.out.size
  by_cases h400 : 400 < N
  · have i0 : (400 : Int) < (N : Int) := by omega
    go_wp2
    go_ret
    exact ⟨rfl, HB1.out⟩
  have i0 : ¬ ((400 : Int) < (N : Int)) := by omega
  go_wp2_with fail
  refine (new_any w1).mono ?_
  rintro e w2 ⟨rfl, hl2, hb2⟩
  have HM : Hid (LinkOk w1.heap.size w1 w2) := ⟨st0, _, _, Inv.start, hl2, hb2, hb2.size⟩
  clear hl2 hb2
  obtain ⟨B, hB⟩ : ∃ B, B = w1.heap.size := ⟨_, rfl⟩
  rw [← hB] at HM hz1 ⊢
  clear hB
  go_upto_region 7 with (fail)
  go_loopw [21] (fun v21 wr => ∃ k : Nat, k ≤ N ∧ v21 = .int .i64 k ∧ LinkOk B w1 wr) (fun v21 _ => N - (intOf v21).toNat)
  case atStart => exact ⟨0, Nat.zero_le _, rfl, HM.out⟩
  case round =>
    obtain ⟨k, hk, rfl, st, R, C, hi, hl, hb, hz⟩ := hrel
    rename World => V
    have HI := Lib.hid hi
    have HS : Hid (LinkSt B st R C w1 V) := ⟨hl, hb, hz⟩
    have HB : Hid (Below w.heap.size w V) := HB1.out.trans (hb.mono hz1)
    clear hi hl hb
    by_cases hlt : k < N
    · have hlt' : k < list.length := by have := HNN.out; omega
      obtain ⟨a, rfl, _, a0, a1, a2, a3⟩ := (HR.out.below HB.out).frame hlt'
      have i1 : (0 : Int) ≤ (k : Int) := by omega
      have i2 : (k : Int) < (N : Int) := by omega
      generalize hx : list[k] = x at *
      clear hx
      obtain ⟨V2, hV2⟩ : ∃ V2, V2 = V.alloc (.cells #[.int .i64 x.kind, .int .i64 x.num, .int .i64 x.taken, .string x.body] 27) := ⟨_, rfl⟩
      have hbk : Bk V2 V.heap.size 27 #[.int .i64 x.kind, .int .i64 x.num, .int .i64 x.taken, .string x.body] := by rw [hV2]; exact Bk.new _ _ _
      have HS2 : Hid (LinkSt B st R C w1 V2) := HS.out.over (by rw [hV2]; exact (Below.refl _ V).alloc (Nat.le_refl _) _)
      have HV2 := Lib.hid hV2
      clear hV2
      go_upto_region 9 with (fail)
      rw [← HV2.out]
      clear HV2 a0 a1 a2 a3
      have q0 : V2.cell? ⟨V.heap.size, 0, none⟩ = some (.int .i64 x.kind) := by rw [hbk.cell]; rfl
      have q1 : V2.cell? ⟨V.heap.size, 1, none⟩ = some (.int .i64 x.num) := by rw [hbk.cell]; rfl
      have q2 : V2.cell? ⟨V.heap.size, 2, none⟩ = some (.int .i64 x.taken) := by rw [hbk.cell]; rfl
      have q3 : V2.cell? ⟨V.heap.size, 3, none⟩ = some (.string x.body) := by rw [hbk.cell]; rfl
      clear hbk
      go_wp2_with fail
      refine (does_any B B st x R C V2 HI.out HS2.out.1 HS2.out.2.2).mono ?_
      rintro e V3 ⟨rfl, hk3⟩
      have HOK : Hid (LinkOk B w1 V3) := by
        obtain ⟨R3, C3, hs3⟩ := HS2.out.lout hk3
        exact ⟨_, R3, C3, HI.out.does x, hs3.1, hs3.2.1, hs3.2.2⟩
      generalize (doesK st x).2 = er
      clear hk3 HS2 HS HI q0 q1 q2 q3
      go_wp2_with fail
      go_roundw
      case rel => exact ⟨k + 1, by omega, by go_num, HOK.out⟩
      case measure => simp [intOf]; omega
    · have i3 : ¬ ((k : Int) < (N : Int)) := by omega
      obtain ⟨D, hD⟩ : ∃ D : Nat, D = (st.e 0).sent.length - (st.g 1).length + ((st.e 1).sent.length - (st.g 0).length) := ⟨_, rfl⟩
      have hDe : openK st = (D : Int) := by rw [openK_eq HI.out, hD]
      have hDs : D ≤ 1024 := by have := HI.out.1.sent; have := HI.out.2.sent; omega
      have HDD := Lib.hid hD
      have HO := Lib.hid (m_open B st R C D HI.out hDe V HS.out.1)
      obtain ⟨M, hM⟩ : ∃ M : Nat, M = D / 64 + 2 := ⟨_, rfl⟩
      have HMM := Lib.hid hM
      have k1 : ((D : Int) / 64) + 2 = (M : Int) := by omega
      have hM9 : M ≤ 1024 := by omega
      clear hD hDe hM
      go_wp2_with fail
      refine HO.out.mono ?_
      rintro e w3 ⟨rfl, hb3⟩
      have HMS : Hid (MSt B st w1 0 w3) := ⟨st, R, C, Rounds.start HI.out, HS.out.over hb3⟩
      have HIX := HI
      clear hb3 HO HS HI HB
      go_upto_region 13 with (fail)
      clear k1 i3 hlt hk
      obtain ⟨x, hx⟩ : ∃ x, x = st := ⟨_, rfl⟩
      rw [← hx] at HIX HMS HDD
      clear hx hz
      go_loopw [7] (fun v7 wr => ∃ r : Nat, r ≤ M ∧ v7 = .int .i64 r ∧ MSt B x w1 r wr) (fun v7 _ => M - (intOf v7).toNat)
      case atStart => exact ⟨0, Nat.zero_le _, rfl, HMS.out⟩
      case round =>
        clear HMS
        obtain ⟨r, hr, rfl, st, R, C, hrr, hs⟩ := hrel
        rename World => Y
        have HRR := Lib.hid hrr
        have HS := Lib.hid hs
        clear hrr hs
        by_cases hlt : r < M
        · have i1 : (r : Int) < (M : Int) := by omega
          obtain ⟨n0, hn0⟩ : ∃ n, (st.g 0).length = n := ⟨_, rfl⟩
          obtain ⟨n1, hn1⟩ : ∃ n, (st.g 1).length = n := ⟨_, rfl⟩
          have HN := Lib.hid (And.intro hn0 hn1)
          have HG0 := Lib.hid (fun V hl => m_got_0 B st R C n0 HRR.out.inv hn0 V hl)
          have HG1 := Lib.hid (fun V hl => m_got_1 B st R C n1 HRR.out.inv hn1 V hl)
          clear hn0 hn1
          go_wp2_with fail
          refine (HG0.out _ HS.out.1).mono ?_
          rintro e Y1 ⟨A1, c1, rfl, hb1⟩
          have HS1 := Lib.hid (HS.out.over hb1)
          clear hb1 HG0
          go_wp2_with fail
          refine (HG1.out _ HS1.out.1).mono ?_
          rintro e Y2 ⟨A2, c2, rfl, hb2⟩
          have HS2 := Lib.hid (HS1.out.over hb2)
          clear hb2 HG1 HS1
          obtain ⟨Y3, hY3⟩ : ∃ Y3, Y3 = Y2.alloc (.cells #[.int .i64 n0, .int .i64 n1] 56) := ⟨_, rfl⟩
          obtain ⟨bb, hbb⟩ : ∃ bb, bb = Y2.heap.size := ⟨_, rfl⟩
          have HBK : Hid (MBk B bb st R C n0 n1 w1 Y3) := by
            rw [hY3, hbb]
            exact ⟨HS2.out.over ((Below.refl _ Y2).alloc (Nat.le_refl _) _), Bk.new _ _ _⟩
          obtain ⟨st9, hm9, hc9⟩ := m_round B bb st R C n0 n1 w1 Y2 Y3 HRR.out.inv HS2.out.1 (by omega) HBK.out
          have HRR9 := Lib.hid (HRR.out.step hm9)
          have HM9 := Lib.hid hm9
          have HC9 := Lib.hid hc9
          clear hm9 hc9
          go_upto_region 16 with (fail)
          rw [← hY3, ← hbb]
          clear hY3 hbb
          go_wp2_with fail
          refine HC9.out.mono ?_
          rintro e Y4 ⟨rfl, R9, C9, hbk9⟩
          have HB9 := Lib.hid hbk9
          clear hbk9 HC9 HBK HS2 HS
          go_upto_region 18 with (fail)
          go_loopw [9] (fun v9 wr => ∃ who : Nat, who ≤ 2 ∧ v9 = .int .i64 who ∧ MBk B bb st9 R9 C9 n0 n1 w1 wr) (fun v9 _ => 2 - (intOf v9).toNat)
          case atStart => exact ⟨0, by omega, rfl, HB9.out⟩
          case round =>
            clear HB9
            obtain ⟨who, hwho, rfl, hs⟩ := hrel
            rename World => Z
            have HS := Lib.hid hs
            clear hs
            have hcase : who = 0 ∨ who = 1 ∨ who = 2 := by omega
            clear hwho
            rcases hcase with hw0 | hw1 | hw2
            · subst hw0
              obtain ⟨m, hm⟩ : ∃ m, (st9.e 1).sent.length = m := ⟨_, rfl⟩
              obtain ⟨q, hq⟩ : ∃ q, (st9.g 0).length = q := ⟨_, rfl⟩
              obtain ⟨kn, hkn⟩ : ∃ kn, (st9.e 1).known = kn := ⟨_, rfl⟩
              have HSD := Lib.hid (fun V hl => m_side_1 B st9 R9 C9 m kn HRR9.out.inv hm hkn V hl)
              have HGT : Hid (∀ V, LinkAt B B st9 R9 C9 V → Calls Try.prog 11 #[.pointer (some ⟨B, 0, none⟩), .int .i64 ((0 : Nat) : Int)] V fun e W' => ∃ A c, e = .returned (.slice A q c) ∧ Below V.heap.size V W') := fun V hl => m_got_0 B st9 R9 C9 q HRR9.out.inv hq V hl
              have HUN : Hid (∀ V, LinkAt B B st9 R9 C9 V → Calls Try.prog 15 #[.pointer (some ⟨B, 0, none⟩), .int .i64 ((0 : Nat) : Int)] V fun e W' => ∃ A c, e = .returned (.slice A 0 c) ∧ Below V.heap.size V W') := fun V hl => m_under_0 B st9 R9 C9 HRR9.out.inv HM9.out.u0 V hl
              have hge : min (m : Int) ((n0 : Int) + 64) ≤ (q : Int) := by
                have := HM9.out.g0
                have := HM9.out.s1
                have := HN.out.1
                rw [← HM9.out.s1] at *
                omega
              have hq9 : q ≤ 1024 := by
                have := HRR9.out.inv.le0
                have := HRR9.out.inv.2.sent
                omega
              have hn9 : n0 ≤ 1099511627776 := by have := HRR.out.inv.fits.g0; have := HN.out.1; omega
              clear hm hq hkn
              have iw : IntKind.i64.wrap ((n0 : Int) + 64) = (n0 : Int) + 64 := IntWalk.i64_in _ (by omega)
              by_cases hmm : (n0 : Int) + 64 < (m : Int)
              · have i3 : decide ((q : Int) < (n0 : Int) + 64) = false := decide_eq_false (by omega)
                have imin : (if (n0 : Int) + 64 < (m : Int) then (n0 : Int) + 64 else (m : Int)) = (n0 : Int) + 64 := if_pos hmm
                clear hmm
                go_wp2_with fail
                refine (HSD.out _ HS.out.1.1).mono ?_
                rintro e Z1 ⟨A3, c3, tk3, rfl, hb3⟩
                have HS1 := Lib.hid (HS.out.over hb3)
                have f1 := field_sent A3 m c3 tk3 kn
                clear hb3 HSD
                go_upto_region 21 with (fail)
                have HSZ : Hid (∀ V, Below Z1.heap.size Z1 V → (fun V => Below Z1.heap.size Z1 V ∧ V.cell? ⟨bb, 0, none⟩ = some (.int .i64 n0)) V) := fun V hB => by
                  have a := ((HS1.out.over hB).2).two
                  exact ⟨hB, a.1⟩
                go_region_held3 (fun V => Below Z1.heap.size Z1 V ∧ V.cell? ⟨bb, 0, none⟩ = some (.int .i64 n0))
                  (first
                    | with_reducible assumption
                    | (refine HSZ.out _ ?_; first | with_reducible exact HW2.out | with_reducible exact (Below.refl _ _).drew))
                  (first
                    | (go_at_call 11; obtain ⟨hB, -⟩ := ‹Below Z1.heap.size Z1 _ ∧ _›; refine (HGT.out _ (HS1.out.over hB).1.1).mono ?_; rintro e wq ⟨Aq, cq, rfl, hb9⟩; have HW2 : Hid (Below Z1.heap.size Z1 wq) := hB.trans (hb9.mono hB.size); clear hB hb9; dsimp only)
                    | (go_at_call 15; obtain ⟨hB, -⟩ := ‹Below Z1.heap.size Z1 _ ∧ _›; refine (HUN.out _ (HS1.out.over hB).1.1).mono ?_; rintro e wq ⟨Aq, cq, rfl, hb9⟩; have HW2 : Hid (Below Z1.heap.size Z1 wq) := hB.trans (hb9.mono hB.size); clear hB hb9; dsimp only))
                all_goals
                  have HS2 := Lib.hid (HS1.out.over HW2.out)
                  clear HSZ HGT HUN HS1 HS
                  go_wp2
                  go_roundw
                  case rel => exact ⟨0 + 1, by omega, by go_num, HS2.out⟩
                  case measure => simp [intOf]
              · have i3 : decide (q < m) = false := decide_eq_false (by omega)
                have imin : (if (n0 : Int) + 64 < (m : Int) then (n0 : Int) + 64 else (m : Int)) = (m : Int) := if_neg hmm
                clear hmm
                go_wp2_with fail
                refine (HSD.out _ HS.out.1.1).mono ?_
                rintro e Z1 ⟨A3, c3, tk3, rfl, hb3⟩
                have HS1 := Lib.hid (HS.out.over hb3)
                have f1 := field_sent A3 m c3 tk3 kn
                clear hb3 HSD
                go_upto_region 21 with (fail)
                have HSZ : Hid (∀ V, Below Z1.heap.size Z1 V → (fun V => Below Z1.heap.size Z1 V ∧ V.cell? ⟨bb, 0, none⟩ = some (.int .i64 n0)) V) := fun V hB => by
                  have a := ((HS1.out.over hB).2).two
                  exact ⟨hB, a.1⟩
                go_region_held3 (fun V => Below Z1.heap.size Z1 V ∧ V.cell? ⟨bb, 0, none⟩ = some (.int .i64 n0))
                  (first
                    | with_reducible assumption
                    | (refine HSZ.out _ ?_; first | with_reducible exact HW2.out | with_reducible exact (Below.refl _ _).drew))
                  (first
                    | (go_at_call 11; obtain ⟨hB, -⟩ := ‹Below Z1.heap.size Z1 _ ∧ _›; refine (HGT.out _ (HS1.out.over hB).1.1).mono ?_; rintro e wq ⟨Aq, cq, rfl, hb9⟩; have HW2 : Hid (Below Z1.heap.size Z1 wq) := hB.trans (hb9.mono hB.size); clear hB hb9; dsimp only)
                    | (go_at_call 15; obtain ⟨hB, -⟩ := ‹Below Z1.heap.size Z1 _ ∧ _›; refine (HUN.out _ (HS1.out.over hB).1.1).mono ?_; rintro e wq ⟨Aq, cq, rfl, hb9⟩; have HW2 : Hid (Below Z1.heap.size Z1 wq) := hB.trans (hb9.mono hB.size); clear hB hb9; dsimp only))
                all_goals
                  have HS2 := Lib.hid (HS1.out.over HW2.out)
                  clear HSZ HGT HUN HS1 HS
                  go_wp2
                  go_roundw
                  case rel => exact ⟨0 + 1, by omega, by go_num, HS2.out⟩
                  case measure => simp [intOf]
            · subst hw1
              obtain ⟨m, hm⟩ : ∃ m, (st9.e 0).sent.length = m := ⟨_, rfl⟩
              obtain ⟨q, hq⟩ : ∃ q, (st9.g 1).length = q := ⟨_, rfl⟩
              obtain ⟨kn, hkn⟩ : ∃ kn, (st9.e 0).known = kn := ⟨_, rfl⟩
              have HSD := Lib.hid (fun V hl => m_side_0 B st9 R9 C9 m kn HRR9.out.inv hm hkn V hl)
              have HGT : Hid (∀ V, LinkAt B B st9 R9 C9 V → Calls Try.prog 11 #[.pointer (some ⟨B, 0, none⟩), .int .i64 ((1 : Nat) : Int)] V fun e W' => ∃ A c, e = .returned (.slice A q c) ∧ Below V.heap.size V W') := fun V hl => m_got_1 B st9 R9 C9 q HRR9.out.inv hq V hl
              have HUN : Hid (∀ V, LinkAt B B st9 R9 C9 V → Calls Try.prog 15 #[.pointer (some ⟨B, 0, none⟩), .int .i64 ((1 : Nat) : Int)] V fun e W' => ∃ A c, e = .returned (.slice A 0 c) ∧ Below V.heap.size V W') := fun V hl => m_under_1 B st9 R9 C9 HRR9.out.inv HM9.out.u1 V hl
              have hge : min (m : Int) ((n1 : Int) + 64) ≤ (q : Int) := by
                have := HM9.out.g1
                have := HM9.out.s0
                have := HN.out.2
                rw [← HM9.out.s0] at *
                omega
              have hq9 : q ≤ 1024 := by
                have := HRR9.out.inv.le1
                have := HRR9.out.inv.1.sent
                omega
              have hn9 : n1 ≤ 1099511627776 := by have := HRR.out.inv.fits.g1; have := HN.out.2; omega
              clear hm hq hkn
              have iw : IntKind.i64.wrap ((n1 : Int) + 64) = (n1 : Int) + 64 := IntWalk.i64_in _ (by omega)
              by_cases hmm : (n1 : Int) + 64 < (m : Int)
              · have i3 : decide ((q : Int) < (n1 : Int) + 64) = false := decide_eq_false (by omega)
                have imin : (if (n1 : Int) + 64 < (m : Int) then (n1 : Int) + 64 else (m : Int)) = (n1 : Int) + 64 := if_pos hmm
                clear hmm
                go_wp2_with fail
                refine (HSD.out _ HS.out.1.1).mono ?_
                rintro e Z1 ⟨A3, c3, tk3, rfl, hb3⟩
                have HS1 := Lib.hid (HS.out.over hb3)
                have f1 := field_sent A3 m c3 tk3 kn
                clear hb3 HSD
                go_upto_region 21 with (fail)
                have HSZ : Hid (∀ V, Below Z1.heap.size Z1 V → (fun V => Below Z1.heap.size Z1 V ∧ V.cell? ⟨bb, 1, none⟩ = some (.int .i64 n1)) V) := fun V hB => by
                  have a := ((HS1.out.over hB).2).two
                  exact ⟨hB, a.2.1⟩
                go_region_held3 (fun V => Below Z1.heap.size Z1 V ∧ V.cell? ⟨bb, 1, none⟩ = some (.int .i64 n1))
                  (first
                    | with_reducible assumption
                    | (refine HSZ.out _ ?_; first | with_reducible exact HW2.out | with_reducible exact (Below.refl _ _).drew))
                  (first
                    | (go_at_call 11; obtain ⟨hB, -⟩ := ‹Below Z1.heap.size Z1 _ ∧ _›; refine (HGT.out _ (HS1.out.over hB).1.1).mono ?_; rintro e wq ⟨Aq, cq, rfl, hb9⟩; have HW2 : Hid (Below Z1.heap.size Z1 wq) := hB.trans (hb9.mono hB.size); clear hB hb9; dsimp only)
                    | (go_at_call 15; obtain ⟨hB, -⟩ := ‹Below Z1.heap.size Z1 _ ∧ _›; refine (HUN.out _ (HS1.out.over hB).1.1).mono ?_; rintro e wq ⟨Aq, cq, rfl, hb9⟩; have HW2 : Hid (Below Z1.heap.size Z1 wq) := hB.trans (hb9.mono hB.size); clear hB hb9; dsimp only))
                all_goals
                  have HS2 := Lib.hid (HS1.out.over HW2.out)
                  clear HSZ HGT HUN HS1 HS
                  go_wp2
                  go_roundw
                  case rel => exact ⟨1 + 1, by omega, by go_num, HS2.out⟩
                  case measure => simp [intOf]
              · have i3 : decide (q < m) = false := decide_eq_false (by omega)
                have imin : (if (n1 : Int) + 64 < (m : Int) then (n1 : Int) + 64 else (m : Int)) = (m : Int) := if_neg hmm
                clear hmm
                go_wp2_with fail
                refine (HSD.out _ HS.out.1.1).mono ?_
                rintro e Z1 ⟨A3, c3, tk3, rfl, hb3⟩
                have HS1 := Lib.hid (HS.out.over hb3)
                have f1 := field_sent A3 m c3 tk3 kn
                clear hb3 HSD
                go_upto_region 21 with (fail)
                have HSZ : Hid (∀ V, Below Z1.heap.size Z1 V → (fun V => Below Z1.heap.size Z1 V ∧ V.cell? ⟨bb, 1, none⟩ = some (.int .i64 n1)) V) := fun V hB => by
                  have a := ((HS1.out.over hB).2).two
                  exact ⟨hB, a.2.1⟩
                go_region_held3 (fun V => Below Z1.heap.size Z1 V ∧ V.cell? ⟨bb, 1, none⟩ = some (.int .i64 n1))
                  (first
                    | with_reducible assumption
                    | (refine HSZ.out _ ?_; first | with_reducible exact HW2.out | with_reducible exact (Below.refl _ _).drew))
                  (first
                    | (go_at_call 11; obtain ⟨hB, -⟩ := ‹Below Z1.heap.size Z1 _ ∧ _›; refine (HGT.out _ (HS1.out.over hB).1.1).mono ?_; rintro e wq ⟨Aq, cq, rfl, hb9⟩; have HW2 : Hid (Below Z1.heap.size Z1 wq) := hB.trans (hb9.mono hB.size); clear hB hb9; dsimp only)
                    | (go_at_call 15; obtain ⟨hB, -⟩ := ‹Below Z1.heap.size Z1 _ ∧ _›; refine (HUN.out _ (HS1.out.over hB).1.1).mono ?_; rintro e wq ⟨Aq, cq, rfl, hb9⟩; have HW2 : Hid (Below Z1.heap.size Z1 wq) := hB.trans (hb9.mono hB.size); clear hB hb9; dsimp only))
                all_goals
                  have HS2 := Lib.hid (HS1.out.over HW2.out)
                  clear HSZ HGT HUN HS1 HS
                  go_wp2
                  go_roundw
                  case rel => exact ⟨1 + 1, by omega, by go_num, HS2.out⟩
                  case measure => simp [intOf]
            · subst hw2
              go_wp2_with fail
              go_roundw
              case rel => exact ⟨r + 1, by omega, by go_num, st9, R9, C9, HRR9.out, HS.out.1⟩
              case measure => simp [intOf]; omega
        · have i1 : ¬ ((r : Int) < (M : Int)) := by omega
          have hd := HRR.out.done HIX.out (by have := HMM.out; have := HDD.out; omega)
          have HD := Lib.hid hd
          clear hd
          go_upto_region 24 with (fail)
          go_loopw [11] (fun v11 wr => ∃ who : Nat, who ≤ 2 ∧ v11 = .int .i64 who ∧ LinkSt B st R C w1 wr) (fun v11 _ => 2 - (intOf v11).toNat)
          case atStart => exact ⟨0, by omega, rfl, HS.out⟩
          case round =>
            clear HS
            obtain ⟨who, hwho, rfl, hs⟩ := hrel
            rename World => Z
            have HS := Lib.hid hs
            clear hs
            have hcase : who = 0 ∨ who = 1 ∨ who = 2 := by omega
            clear hwho
            rcases hcase with hw0 | hw1 | hw2
            · subst hw0
              obtain ⟨m, hm⟩ : ∃ m, (st.e 0).sent.length = m := ⟨_, rfl⟩
              have HSD : Hid (∀ V, LinkAt B B st R C V → Calls Try.prog 12 #[.pointer (some ⟨B, 0, none⟩), .int .i64 ((0 : Nat) : Int)] V fun e W' => ∃ A c tk, e = .returned (.agg #[.slice A m c, .int .i64 tk, .int .i64 (m : Int)]) ∧ Below V.heap.size V W') := fun V hl => m_side_0 B st R C m m HRR.out.inv hm (by rw [HD.out.2.2.1, hm]) V hl
              have HGT : Hid (∀ V, LinkAt B B st R C V → Calls Try.prog 11 #[.pointer (some ⟨B, 0, none⟩), .int .i64 1] V fun e W' => ∃ A c, e = .returned (.slice A m c) ∧ Below V.heap.size V W') := fun V hl => m_got_1 B st R C m HRR.out.inv (by rw [HD.out.2.1, hm]) V hl
              clear hm
              go_wp2_with fail
              refine (HSD.out _ HS.out.1).mono ?_
              rintro e Z1 ⟨A3, c3, tk3, rfl, hb3⟩
              have HS1 := Lib.hid (HS.out.over hb3)
              clear hb3 HSD
              obtain ⟨Z2, hZ2⟩ : ∃ Z2, Z2 = Z1.alloc (.cells #[.slice A3 m c3, .int .i64 tk3, .int .i64 (m : Int)] 33) := ⟨_, rfl⟩
              obtain ⟨gs, hgs⟩ : ∃ gs, gs = Z1.heap.size := ⟨_, rfl⟩
              have HS2 : Hid (LinkSt B st R C w1 Z2) := by rw [hZ2]; exact HS1.out.over ((Below.refl _ Z1).alloc (Nat.le_refl _) _)
              have HSV : Hid (Bk Z2 gs 33 #[.slice A3 m c3, .int .i64 tk3, .int .i64 (m : Int)]) := by rw [hZ2, hgs]; exact Bk.new _ _ _
              go_upto_region 27 with (fail)
              rw [← hZ2, ← hgs]
              clear hZ2 hgs
              have bne : ((m : Int) != (m : Int)) = false := by simp
              have HSZ : Hid (∀ V, Below Z2.heap.size Z2 V → (fun V => Below Z2.heap.size Z2 V ∧ V.cell? ⟨gs, 0, none⟩ = some (.slice A3 m c3) ∧ V.cell? ⟨gs, 2, none⟩ = some (.int .i64 (m : Int))) V) := fun V hB => by
                have a := (HSV.out.below hB HSV.out.lt).three
                exact ⟨hB, a.1, a.2.2.1⟩
              go_region_held3 (fun V => Below Z2.heap.size Z2 V ∧ V.cell? ⟨gs, 0, none⟩ = some (.slice A3 m c3) ∧ V.cell? ⟨gs, 2, none⟩ = some (.int .i64 (m : Int)))
                (first
                  | with_reducible assumption
                  | (refine HSZ.out _ ?_; first | with_reducible exact HW2.out | with_reducible exact (Below.refl _ _).drew))
                (first
                  | (go_at_call 11; obtain ⟨hB, -⟩ := ‹Below Z2.heap.size Z2 _ ∧ _›; refine (HGT.out _ (HS2.out.over hB).1).mono ?_; rintro e wq ⟨Aq, cq, rfl, hb9⟩; have HW2 : Hid (Below Z2.heap.size Z2 wq) := hB.trans (hb9.mono hB.size); clear hB hb9; dsimp only))
              have HS3 := Lib.hid (HS2.out.over HW2.out)
              clear HSZ HGT HS2 HS1 HS HSV
              go_wp2
              go_roundw
              case rel => exact ⟨0 + 1, by omega, by go_num, HS3.out⟩
              case measure => simp [intOf]
            · subst hw1
              obtain ⟨m, hm⟩ : ∃ m, (st.e 1).sent.length = m := ⟨_, rfl⟩
              have HSD : Hid (∀ V, LinkAt B B st R C V → Calls Try.prog 12 #[.pointer (some ⟨B, 0, none⟩), .int .i64 ((1 : Nat) : Int)] V fun e W' => ∃ A c tk, e = .returned (.agg #[.slice A m c, .int .i64 tk, .int .i64 (m : Int)]) ∧ Below V.heap.size V W') := fun V hl => m_side_1 B st R C m m HRR.out.inv hm (by rw [HD.out.2.2.2.1, hm]) V hl
              have HGT : Hid (∀ V, LinkAt B B st R C V → Calls Try.prog 11 #[.pointer (some ⟨B, 0, none⟩), .int .i64 0] V fun e W' => ∃ A c, e = .returned (.slice A m c) ∧ Below V.heap.size V W') := fun V hl => m_got_0 B st R C m HRR.out.inv (by rw [HD.out.1, hm]) V hl
              clear hm
              go_wp2_with fail
              refine (HSD.out _ HS.out.1).mono ?_
              rintro e Z1 ⟨A3, c3, tk3, rfl, hb3⟩
              have HS1 := Lib.hid (HS.out.over hb3)
              clear hb3 HSD
              obtain ⟨Z2, hZ2⟩ : ∃ Z2, Z2 = Z1.alloc (.cells #[.slice A3 m c3, .int .i64 tk3, .int .i64 (m : Int)] 33) := ⟨_, rfl⟩
              obtain ⟨gs, hgs⟩ : ∃ gs, gs = Z1.heap.size := ⟨_, rfl⟩
              have HS2 : Hid (LinkSt B st R C w1 Z2) := by rw [hZ2]; exact HS1.out.over ((Below.refl _ Z1).alloc (Nat.le_refl _) _)
              have HSV : Hid (Bk Z2 gs 33 #[.slice A3 m c3, .int .i64 tk3, .int .i64 (m : Int)]) := by rw [hZ2, hgs]; exact Bk.new _ _ _
              go_upto_region 27 with (fail)
              rw [← hZ2, ← hgs]
              clear hZ2 hgs
              have bne : ((m : Int) != (m : Int)) = false := by simp
              have HSZ : Hid (∀ V, Below Z2.heap.size Z2 V → (fun V => Below Z2.heap.size Z2 V ∧ V.cell? ⟨gs, 0, none⟩ = some (.slice A3 m c3) ∧ V.cell? ⟨gs, 2, none⟩ = some (.int .i64 (m : Int))) V) := fun V hB => by
                have a := (HSV.out.below hB HSV.out.lt).three
                exact ⟨hB, a.1, a.2.2.1⟩
              go_region_held3 (fun V => Below Z2.heap.size Z2 V ∧ V.cell? ⟨gs, 0, none⟩ = some (.slice A3 m c3) ∧ V.cell? ⟨gs, 2, none⟩ = some (.int .i64 (m : Int)))
                (first
                  | with_reducible assumption
                  | (refine HSZ.out _ ?_; first | with_reducible exact HW2.out | with_reducible exact (Below.refl _ _).drew))
                (first
                  | (go_at_call 11; obtain ⟨hB, -⟩ := ‹Below Z2.heap.size Z2 _ ∧ _›; refine (HGT.out _ (HS2.out.over hB).1).mono ?_; rintro e wq ⟨Aq, cq, rfl, hb9⟩; have HW2 : Hid (Below Z2.heap.size Z2 wq) := hB.trans (hb9.mono hB.size); clear hB hb9; dsimp only))
              have HS3 := Lib.hid (HS2.out.over HW2.out)
              clear HSZ HGT HS2 HS1 HS HSV
              go_wp2
              go_roundw
              case rel => exact ⟨1 + 1, by omega, by go_num, HS3.out⟩
              case measure => simp [intOf]
            · subst hw2
              have HO := Lib.hid (m_open B st R C 0 HRR.out.inv HD.out.2.2.2.2 Z HS.out.1)
              go_wp2_with fail
              refine HO.out.mono ?_
              rintro e Z1 ⟨rfl, hb3⟩
              have HS1 := Lib.hid (HS.out.over hb3)
              clear hb3
              go_wp2
              go_ret
              exact ⟨rfl, HB1.out.trans (HS1.out.2.1.mono hz1)⟩

end Go.Proofs.Ytnbndhmdfheikaa
