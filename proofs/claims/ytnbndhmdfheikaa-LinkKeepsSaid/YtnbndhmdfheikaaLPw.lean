/- Walk of LinkKeeps. By gen_lp5.py. -/
import Derived.Test.YtnbndhmdfheikaaLPa
import Derived.Deep.DeepCutAuto
import Derived.Deep.CutBlock
import Derived.Deep.CutRange
import Derived.StillTailTactics
namespace Go.Proofs.Ytnbndhmdfheikaa
open Go.RowKit

/-- Between two moves. -/
def KOk (B bo : Nat) (w wr : World) : Prop := ∃ st R C, Inv st ∧ TwoL B bo st R C w wr

set_option maxRecDepth 1000000 in
set_option maxHeartbeats 16000000 in
theorem keeps_walk (A0 : Option Addr) (N c0 : Nat) (list : List Fr) (w : World) (hnm : N ≤ maxLen) (hr : Rd w w.heap.size 4 A0 N (frs list)) :
    Calls Try.prog 5 #[.slice A0 N c0] w fun e w' => e = .returned (.bool true) ∧ Below w.heap.size w w' := by
  have hN : list.length = N := by have := hr.1; rw [frs_len] at this; omega
  have HR := Lib.hid hr
  have HNN := Lib.hid hN
  clear hr hN
  unfold maxLen at hnm
  go_enter Try.func5, Try.ntmps5
  go_wp2_with fail
  refine (wakes_any w).mono ?_
  rintro e w1 ⟨rfl, hb1⟩
  have HB1 := Lib.hid hb1
  clear hb1
  have hz1 : w.heap.size ≤ w1.heap.size := HB1.out.size
  by_cases h100 : 100 < N
  · have i0 : (100 : Int) < (N : Int) := by omega
    go_wp2
    go_ret
    exact ⟨rfl, HB1.out⟩
  have i0 : ¬ ((100 : Int) < (N : Int)) := by omega
  go_wp2_with fail
  refine (two_new w1).mono ?_
  rintro e w2 ⟨rfl, hl2, hb2⟩
  have HL2 := Lib.hid hl2
  have HB2 := Lib.hid hb2
  clear hl2 hb2
  go_wp2_with fail
  refine (two_new w2).mono ?_
  rintro e w3 ⟨rfl, hl3, hb3⟩
  have HM : Hid (KOk w1.heap.size w2.heap.size w1 w3) := ⟨st0, _, _, Inv.start, two_start HL2.out HB2.out hl3 hb3⟩
  clear hl3 hb3 HL2 HB2
  obtain ⟨B, hB⟩ : ∃ B, B = w1.heap.size := ⟨_, rfl⟩
  obtain ⟨bo, hbo⟩ : ∃ bo, bo = w2.heap.size := ⟨_, rfl⟩
  rw [← hB, ← hbo] at HM
  rw [← hB] at hz1
  rw [← hB, ← hbo]
  clear hB hbo
  go_upto_region 7 with (fail)
  go_loopw [26] (fun v26 wr => ∃ k : Nat, k ≤ N ∧ v26 = .int .i64 k ∧ KOk B bo w1 wr) (fun v26 _ => N - (intOf v26).toNat)
  case atStart => exact ⟨0, Nat.zero_le _, rfl, HM.out⟩
  case round =>
    obtain ⟨k, hk, rfl, st, R, C, hi, hs0⟩ := hrel
    rename World => V
    have HI := Lib.hid hi
    have HS := Lib.hid hs0
    have HB : Hid (Below w.heap.size w V) := HB1.out.trans (hs0.1.2.1.mono hz1)
    clear hi hs0 HM
    by_cases hlt : k < N
    · have hlt' : k < list.length := by have := HNN.out; omega
      obtain ⟨a, rfl, _, a0, a1, a2, a3⟩ := (HR.out.below HB.out).frame hlt'
      have i1 : (0 : Int) ≤ (k : Int) := by omega
      have i2 : (k : Int) < (N : Int) := by omega
      generalize hx : list[k] = x at *
      clear hx
      obtain ⟨V2, hV2⟩ : ∃ V2, V2 = V.alloc (.cells #[.int .i64 x.kind, .int .i64 x.num, .int .i64 x.taken, .string x.body] 27) := ⟨_, rfl⟩
      have hbk : Bk V2 V.heap.size 27 #[.int .i64 x.kind, .int .i64 x.num, .int .i64 x.taken, .string x.body] := by rw [hV2]; exact Bk.new _ _ _
      have HS2 : Hid (TwoL B bo st R C w1 V2) := HS.out.over (by rw [hV2]; exact (Below.refl _ V).alloc (Nat.le_refl _) _)
      have HV2 := Lib.hid hV2
      clear hV2
      go_upto_region 9 with (fail)
      rw [← HV2.out]
      clear HV2 a0 a1 a2 a3
      have q0 : V2.cell? ⟨V.heap.size, 0, none⟩ = some (.int .i64 x.kind) := by rw [hbk.cell]; rfl
      have q1 : V2.cell? ⟨V.heap.size, 1, none⟩ = some (.int .i64 x.num) := by rw [hbk.cell]; rfl
      have q2 : V2.cell? ⟨V.heap.size, 2, none⟩ = some (.int .i64 x.taken) := by rw [hbk.cell]; rfl
      have q3 : V2.cell? ⟨V.heap.size, 3, none⟩ = some (.string x.body) := by rw [hbk.cell]; rfl
      clear hbk
      go_wp2_with fail
      refine (does_any B B st x R C V2 HI.out HS2.out.1.1 HS2.out.1.2.2).mono ?_
      rintro e V3 ⟨rfl, hk3⟩
      have HOK : Hid (KOk B bo w1 V3) := by
        obtain ⟨R3, C3, hs3⟩ := HS2.out.lout hk3
        exact ⟨_, R3, C3, HI.out.does x, hs3⟩
      generalize (doesK st x).2 = er
      clear hk3 HS2 HS HI q0 q1 q2 q3
      go_wp2_with fail
      go_roundw
      case rel => exact ⟨k + 1, by omega, by go_num, HOK.out⟩
      case measure => simp [intOf]; omega
    have i3 : ¬ ((k : Int) < (N : Int)) := by omega
    clear HB
    go_upto_region 12 with (fail)
    clear i3 hlt
    go_loopw [7] (fun v7 wr => ∃ who : Nat, who ≤ 2 ∧ v7 = .int .i64 who ∧ TwoL B bo st R C w1 wr) (fun v7 _ => 2 - (intOf v7).toNat)
    case atStart => exact ⟨0, by omega, rfl, HS.out⟩
    case round =>
      obtain ⟨who, hwho, rfl, ht⟩ := hrel
      rename World => Y
      have HT := Lib.hid ht
      clear ht HS
      by_cases hw2 : who < 2
      · have hw : who = 0 ∨ who = 1 := by omega
        have i1 : (who : Int) < 2 := by omega
        obtain ⟨lo, hlo⟩ : ∃ lo, lo = Y.heap.size := ⟨_, rfl⟩
        have HIN : Hid ((∀ b, inLink B R b → b < lo) ∧ bo < lo ∧ B ≤ lo) := by rw [hlo]; exact Lib.hid ⟨fun b hb => (HT.out.1.1.blocks b hb).2, HT.out.2.1.bk.lt, HT.out.1.2.2⟩
        have HLO := Lib.hid hlo
        clear hlo
        obtain ⟨⟨ss, tk, kn⟩, hs⟩ : ∃ s, s = st.e who := ⟨_, rfl⟩
        obtain ⟨u, hu⟩ : ∃ u, u = st.u who := ⟨_, rfl⟩
        obtain ⟨gl, hgl⟩ : ∃ gl, gl = st.g who := ⟨_, rfl⟩
        have HC12 : Hid (∀ V, LinkAt B B st R C V → Calls Try.prog 12 #[.pointer (some ⟨B, 0, none⟩), .int .i64 (who : Int)] V fun e W' => ∃ A c, e = .returned (.agg #[.slice A ss.length c, .int .i64 tk, .int .i64 kn]) ∧ W'.ownsRow V.heap.size 9 1 (.slice A ss.length c) ss.length (ss.map Value.string) ∧ Below V.heap.size V W') := fun V hl => by
          have h := w_side B st R C who hw HI.out V hl
          rw [← hs] at h
          exact h.mono fun _ _ ⟨A, c, h1, _, _, h2, h3⟩ => ⟨A, c, h1, h2, h3⟩
        have HC15 : Hid (∀ V, LinkAt B B st R C V → Calls Try.prog 15 #[.pointer (some ⟨B, 0, none⟩), .int .i64 (who : Int)] V fun e W' => ∃ A c, e = .returned (.slice A u.length c) ∧ W'.ownsRow V.heap.size 44 4 (.slice A u.length c) u.length (frs u) ∧ Below V.heap.size V W') := fun V hl => by
          have h := w_under B st R C who hw HI.out V hl
          rw [← hu] at h
          exact h.mono fun _ _ ⟨A, c, h1, _, _, h2, h3⟩ => ⟨A, c, h1, h2, h3⟩
        have HC11 : Hid (∀ V, LinkAt B B st R C V → Calls Try.prog 11 #[.pointer (some ⟨B, 0, none⟩), .int .i64 (who : Int)] V fun e W' => ∃ A c, e = .returned (.slice A gl.length c) ∧ W'.ownsRow V.heap.size 9 1 (.slice A gl.length c) gl.length (gl.map Value.string) ∧ Below V.heap.size V W') := fun V hl => by
          have h := w_got B st R C who hw HI.out V hl
          rw [← hgl] at h
          exact h.mono fun _ _ ⟨A, c, h1, _, _, h2, h3⟩ => ⟨A, c, h1, h2, h3⟩
        clear hs hu hgl
        go_wp2_with fail
        refine (HC12.out Y HT.out.1.1).mono ?_
        rintro e V1 ⟨Aa, ca, rfl, hoa, hb1⟩
        have HT1 := Lib.hid (HT.out.over hb1)
        have HOa : Hid (V1.ownsRow lo 9 1 (.slice Aa ss.length ca) ss.length (ss.map Value.string)) := by rw [HLO.out]; exact hoa
        have hz1' : lo ≤ V1.heap.size := by rw [HLO.out]; exact hb1.size
        clear hoa hb1
        go_wp2_with fail
        refine (HC15.out V1 HT1.out.1.1).mono ?_
        rintro e V2 ⟨X, cx, rfl, hox, hb2⟩
        have HT2 := Lib.hid (HT1.out.over hb2)
        have HOx : Hid (V2.ownsRow V1.heap.size 44 4 (.slice X u.length cx) u.length (frs u)) := hox
        have HB12 := Lib.hid hb2
        clear hox hb2
        go_wp2_with fail
        refine (HC11.out V2 HT2.out.1.1).mono ?_
        rintro e V3 ⟨Ac, cc, rfl, hoc, hb3⟩
        have HT3 := Lib.hid (HT2.out.over hb3)
        have HOc : Hid (V3.ownsRow V2.heap.size 9 1 (.slice Ac gl.length cc) gl.length (gl.map Value.string)) := hoc
        have HB23 := Lib.hid hb3
        clear hoc hb3
        obtain ⟨V4, hV4⟩ : ∃ V4, V4 = V3.alloc (.cells #[.slice Aa ss.length ca, .int .i64 tk, .int .i64 kn] 33) := ⟨_, rfl⟩
        obtain ⟨ga, hga⟩ : ∃ ga, ga = V3.heap.size := ⟨_, rfl⟩
        have HB34 : Hid (Below V3.heap.size V3 V4) := by rw [hV4]; exact (Below.refl _ V3).alloc (Nat.le_refl _) _
        have HAv : Hid (Bk V4 ga 33 #[.slice Aa ss.length ca, .int .i64 tk, .int .i64 kn]) := by rw [hV4, hga]; exact Bk.new _ _ _
        have hz2 := HB12.out.size
        have hz3 := HB23.out.size
        have hz4 := HB34.out.size
        have hga1 : ga < V4.heap.size := HAv.out.lt
        have HTa := Lib.hid (HT3.out.over HB34.out)
        have HAo : Hid (V4.ownsRow lo 9 1 (.slice Aa ss.length ca) ss.length (ss.map Value.string)) := own_keep HOa.out fun p hp => by
          have := (own_lt HOa.out p hp).2
          exact (HB34.out.block _ (by omega)).trans ((HB23.out.block _ (by omega)).trans (HB12.out.block _ (by omega)))
        have HXo : Hid (V4.ownsRow lo 44 4 (.slice X u.length cx) u.length (frs u)) := own_mono (own_keep HOx.out fun p hp => by
          have := (own_lt HOx.out p hp).2
          exact (HB34.out.block _ (by omega)).trans (HB23.out.block _ (by omega))) (by omega)
        have HCo : Hid (V4.ownsRow lo 9 1 (.slice Ac gl.length cc) gl.length (gl.map Value.string)) := own_mono (own_keep HOc.out fun p hp => by
          have := (own_lt HOc.out p hp).2
          exact HB34.out.block _ (by omega)) (by omega)
        have hga2 : ga ≤ V3.heap.size ∧ V3.heap.size ≤ ga := by omega
        have HLT : Hid ((∀ p, Aa = some p → p.block < ga) ∧ (∀ p, X = some p → p.block < ga) ∧ (∀ p, Ac = some p → p.block < ga)) := Lib.hid ⟨fun p hp => by have := (own_lt HOa.out p hp).2; omega, fun p hp => by have := (own_lt HOx.out p hp).2; omega, fun p hp => by have := (own_lt HOc.out p hp).2; omega⟩
        obtain ⟨hi9, hhi⟩ : ∃ hi9, hi9 = V4.heap.size := ⟨_, rfl⟩
        have HHI := Lib.hid hhi
        have hhi2 : hi9 ≤ V4.heap.size ∧ V4.heap.size ≤ hi9 := by omega
        clear hhi
        go_upto_region 15 with (fail)
        rw [← hV4, ← hga]
        clear hga hV4 HT HT1 HT2 HT3 HOa HOx HOc HB12 HB23 HB34
        go_wp2_with fail
        refine (HC12.out V4 HTa.out.1.1).mono ?_
        rintro e V5 ⟨Ad, cd, rfl, hod, hb5⟩
        have HT5 := Lib.hid (HTa.out.over hb5)
        have HB45 := Lib.hid hb5
        have HOd := Lib.hid hod
        clear hod hb5
        go_wp2_with fail
        refine (HC15.out V5 HT5.out.1.1).mono ?_
        rintro e V6 ⟨Xe, ce, rfl, hox, hb6⟩
        have HT6 := Lib.hid (HT5.out.over hb6)
        have HB56 := Lib.hid hb6
        have HOe := Lib.hid hox
        clear hox hb6
        go_wp2_with fail
        refine (HC11.out V6 HT6.out.1.1).mono ?_
        rintro e V7 ⟨Af, cf, rfl, hoc, hb7⟩
        have HT7 := Lib.hid (HT6.out.over hb7)
        have HB67 := Lib.hid hb7
        have HOf := Lib.hid hoc
        clear hoc hb7
        obtain ⟨V8, hV8⟩ : ∃ V8, V8 = V7.alloc (.cells #[.slice Ad ss.length cd, .int .i64 tk, .int .i64 kn] 33) := ⟨_, rfl⟩
        obtain ⟨gd, hgd⟩ : ∃ gd, gd = V7.heap.size := ⟨_, rfl⟩
        have HB78 : Hid (Below V7.heap.size V7 V8) := by rw [hV8]; exact (Below.refl _ V7).alloc (Nat.le_refl _) _
        have HDv : Hid (Bk V8 gd 33 #[.slice Ad ss.length cd, .int .i64 tk, .int .i64 kn]) := by rw [hV8, hgd]; exact Bk.new _ _ _
        have hz5 := HB45.out.size
        have hz6 := HB56.out.size
        have hz7 := HB67.out.size
        have hz8 := HB78.out.size
        have HB48 : Hid (Below V4.heap.size V4 V8) := HB45.out.trans ((HB56.out.mono hz5).trans ((HB67.out.mono (by omega)).trans (HB78.out.mono (by omega))))
        have HT8 := Lib.hid (HT7.out.over HB78.out)
        have HDo : Hid (V8.ownsRow hi9 9 1 (.slice Ad ss.length cd) ss.length (ss.map Value.string)) := by
          rw [HHI.out]
          exact own_keep HOd.out fun p hp => by
            have := (own_lt HOd.out p hp).2
            exact (HB78.out.block _ (by omega)).trans ((HB67.out.block _ (by omega)).trans (HB56.out.block _ (by omega)))
        have HEo : Hid (V8.ownsRow hi9 44 4 (.slice Xe u.length ce) u.length (frs u)) := own_mono (own_keep HOe.out fun p hp => by
          have := (own_lt HOe.out p hp).2
          exact (HB78.out.block _ (by omega)).trans (HB67.out.block _ (by omega))) (by omega)
        have HFo : Hid (V8.ownsRow hi9 9 1 (.slice Af gl.length cf) gl.length (gl.map Value.string)) := own_mono (own_keep HOf.out fun p hp => by
          have := (own_lt HOf.out p hp).2
          exact HB78.out.block _ (by omega)) (by omega)
        have hgd1 : hi9 ≤ gd := by omega
        have hgd2 : gd < V8.heap.size := HDv.out.lt
        have hlo8 : lo ≤ V8.heap.size := by omega
        have HKW : Hid (KW lo hi9 V8 ga Aa ss.length ca tk kn X u.length cx Ac gl.length cc V8) := by
          obtain ⟨l1, l2, l3⟩ := HLT.out
          refine ⟨Ex.refl _, HAv.out.below HB48.out hga1, Ow.of (own_keep HAo.out fun p hp => HB48.out.block _ (by have := l1 p hp; omega)), Ow.of (own_keep HXo.out fun p hp => HB48.out.block _ (by have := l2 p hp; omega)), Ow.of (own_keep HCo.out fun p hp => HB48.out.block _ (by have := l3 p hp; omega)), fun p hp => by have := l1 p hp; omega, fun p hp => by have := l2 p hp; omega, fun p hp => by have := l3 p hp; omega⟩
        go_upto_region 16 with (fail)
        rw [← hV8, ← hgd]
        clear hV8 hgd hga2 hhi2 HHI HTa HT5 HT6 HT7 HB45 HB56 HB67 HB78 HB48 HOd HOe HOf HAv HAo HXo HCo HLT hz1' hz2 hz3 hz4 hz5 hz6 hz7 hz8 hga1
        have hla := HKW.out.ra.len
        have hlx := HKW.out.rx.len
        have hlc := HKW.out.rc.len
        obtain ⟨q0, q1, q2, z0, z1, z2, hg⟩ := HKW.out.a.three
        go_wp2
        go_loopw [59] (fun i wr => ∃ k : Nat, k ≤ ss.length ∧ i = .int .i64 k ∧ KW lo hi9 V8 ga Aa ss.length ca tk kn X u.length cx Ac gl.length cc wr) (fun i _ => ss.length - (intOf i).toNat)
        case atStart => exact ⟨0, Nat.zero_le _, rfl, HKW.out⟩
        case round =>
          obtain ⟨ka, hka, rfl, hkw⟩ := hrel
          have HKr := Lib.hid hkw
          clear hkw
          rename World => W6
          by_cases hlta : ka < ss.length
          · obtain ⟨a1, u1, hA1, c1, zz1, hl1, hset⟩ := HKr.out.cellA hlta
            have HSET := Lib.hid hset
            clear hset q0 q1 q2 z0 z1 z2 hg
            obtain ⟨q0, q1, q2, z0, z1, z2, hg⟩ := HKr.out.a.three
            rw [hA1] at q0
            have i1 : (ka : Int) < (ss.length : Int) := by omega
            have i2 : (0 : Int) ≤ (ka : Int) := by omega
            have i3 : IntKind.i64.wrap ((ka : Int) + 1) = (ka : Int) + 1 := IntWalk.i64_in _ (by omega)
            go_wp2_with fail
            exact ⟨⟨ka + 1, by omega, by push_cast; rfl, HSET.out _⟩, by simp only [intOf]; omega⟩
          have i0a : ¬ ((ka : Int) < (ss.length : Int)) := by omega
          clear q0 q1 q2 z0 z1 z2 hg
          go_wp2
          go_loopw [69] (fun i wr => ∃ k : Nat, k ≤ u.length ∧ i = .int .i64 k ∧ KW lo hi9 V8 ga Aa ss.length ca tk kn X u.length cx Ac gl.length cc wr) (fun i _ => u.length - (intOf i).toNat)
          case atStart => exact ⟨0, Nat.zero_le _, rfl, HKr.out⟩
          case round =>
            obtain ⟨kx, hkx, rfl, hkw⟩ := hrel
            have HKx := Lib.hid hkw
            clear hkw HKr
            rename World => W7
            by_cases hltx : kx < u.length
            · obtain ⟨a1, u0, u1, u2, u3, hA1, ⟨c0', c1, c2, c3⟩, ⟨zz0, zz1, zz2, zz3⟩, ⟨y1, y2, y3, y4, y5, y6⟩, hl1, hset⟩ := HKx.out.cellX hltx
              have HSET := Lib.hid hset
              clear hset
              have i1 : (kx : Int) < (u.length : Int) := by omega
              have i2 : (0 : Int) ≤ (kx : Int) := by omega
              have i3 : IntKind.i64.wrap ((kx : Int) + 1) = (kx : Int) + 1 := IntWalk.i64_in _ (by omega)
              go_wp2_with fail
              exact ⟨⟨kx + 1, by omega, by push_cast; rfl, HSET.out _ _ _ _⟩, by simp only [intOf]; omega⟩
            have i0x : ¬ ((kx : Int) < (u.length : Int)) := by omega
            go_wp2
            go_loopw [79] (fun i wr => ∃ k : Nat, k ≤ gl.length ∧ i = .int .i64 k ∧ KW lo hi9 V8 ga Aa ss.length ca tk kn X u.length cx Ac gl.length cc wr) (fun i _ => gl.length - (intOf i).toNat)
            case atStart => exact ⟨0, Nat.zero_le _, rfl, HKx.out⟩
            case round =>
              obtain ⟨kc, hkc, rfl, hkw⟩ := hrel
              have HKc := Lib.hid hkw
              clear hkw HKx
              rename World => W8
              by_cases hltc : kc < gl.length
              · obtain ⟨a1, u1, hA1, c1, zz1, hl1, hset⟩ := HKc.out.cellC hltc
                have HSET := Lib.hid hset
                clear hset
                subst hA1
                have i1 : (kc : Int) < (gl.length : Int) := by omega
                have i2 : (0 : Int) ≤ (kc : Int) := by omega
                have i3 : IntKind.i64.wrap ((kc : Int) + 1) = (kc : Int) + 1 := IntWalk.i64_in _ (by omega)
                go_wp2_with fail
                exact ⟨⟨kc + 1, by omega, by push_cast; rfl, HSET.out _⟩, by simp only [intOf]; omega⟩
              have i0c : ¬ ((kc : Int) < (gl.length : Int)) := by omega
              have HEX := Lib.hid HKc.out.ex
              have HT9 : Hid (TwoL B bo st R C w1 W8) := HT8.out.ex HEX.out HIN.out.1 HIN.out.2.1 HIN.out.2.2 hlo8
              have HDv9 : Hid (Bk W8 gd 33 #[.slice Ad ss.length cd, .int .i64 tk, .int .i64 kn]) := HEX.out.bk HDv.out (.inr hgd1)
              have HDr9 : Hid (Rd W8 W8.heap.size 1 Ad ss.length (ss.map Value.string)) := Rd.of_own (HEX.out.own HDo.out fun p hp => .inr (own_lt HDo.out p hp).1)
              have HEr9 : Hid (Rd W8 W8.heap.size 4 Xe u.length (frs u)) := Rd.of_own (HEX.out.own HEo.out fun p hp => .inr (own_lt HEo.out p hp).1)
              have HFr9 : Hid (Rd W8 W8.heap.size 1 Af gl.length (gl.map Value.string)) := Rd.of_own (HEX.out.own HFo.out fun p hp => .inr (own_lt HFo.out p hp).1)
              have HL12 : Hid (∀ V, Below W8.heap.size W8 V → Calls Try.prog 12 #[.pointer (some ⟨B, 0, none⟩), .int .i64 (who : Int)] V fun e W' => ∃ A c, e = .returned (.agg #[.slice A ss.length c, .int .i64 tk, .int .i64 kn]) ∧ Rd W' W'.heap.size 1 A ss.length (ss.map Value.string) ∧ Below V.heap.size V W') := fun V hV =>
                (HC12.out V (HT9.out.over hV).1.1).mono fun _ _ ⟨A, c, h1, h2, h3⟩ => ⟨A, c, h1, Rd.of_own h2, h3⟩
              have HL15 : Hid (∀ V, Below W8.heap.size W8 V → Calls Try.prog 15 #[.pointer (some ⟨B, 0, none⟩), .int .i64 (who : Int)] V fun e W' => ∃ A c, e = .returned (.slice A u.length c) ∧ Rd W' W'.heap.size 4 A u.length (frs u) ∧ Below V.heap.size V W') := fun V hV =>
                (HC15.out V (HT9.out.over hV).1.1).mono fun _ _ ⟨A, c, h1, h2, h3⟩ => ⟨A, c, h1, Rd.of_own h2, h3⟩
              have HL11 : Hid (∀ V, Below W8.heap.size W8 V → Calls Try.prog 11 #[.pointer (some ⟨B, 0, none⟩), .int .i64 (who : Int)] V fun e W' => ∃ A c, e = .returned (.slice A gl.length c) ∧ Rd W' W'.heap.size 1 A gl.length (gl.map Value.string) ∧ Below V.heap.size V W') := fun V hV =>
                (HC11.out V (HT9.out.over hV).1.1).mono fun _ _ ⟨A, c, h1, h2, h3⟩ => ⟨A, c, h1, Rd.of_own h2, h3⟩
              have HO12 : Hid (∀ V, Below W8.heap.size W8 V → Calls Try.prog 12 #[.pointer (some ⟨bo, 0, none⟩), .int .i64 (who : Int)] V fun e W' => ∃ A c, e = .returned (.agg #[.slice A 0 c, .int .i64 0, .int .i64 0]) ∧ Below V.heap.size V W') := fun V hV =>
                (w_side bo st0 _ _ who hw Inv.start V (HT9.out.over hV).2.1).mono fun _ _ ⟨A, c, h1, _, _, _, h3⟩ => ⟨A, c, h1, h3⟩
              have HO15 : Hid (∀ V, Below W8.heap.size W8 V → Calls Try.prog 15 #[.pointer (some ⟨bo, 0, none⟩), .int .i64 (who : Int)] V fun e W' => ∃ A c, e = .returned (.slice A 0 c) ∧ Below V.heap.size V W') := fun V hV =>
                (w_under bo st0 _ _ who hw Inv.start V (HT9.out.over hV).2.1).mono fun _ _ ⟨A, c, h1, _, _, _, h3⟩ => ⟨A, c, h1, h3⟩
              have HO11 : Hid (∀ V, Below W8.heap.size W8 V → Calls Try.prog 11 #[.pointer (some ⟨bo, 0, none⟩), .int .i64 (who : Int)] V fun e W' => ∃ A c, e = .returned (.slice A 0 c) ∧ Below V.heap.size V W') := fun V hV =>
                (w_got bo st0 _ _ who hw Inv.start V (HT9.out.over hV).2.1).mono fun _ _ ⟨A, c, h1, _, _, _, h3⟩ => ⟨A, c, h1, h3⟩
              have H18 : Hid (∀ V A c, Below W8.heap.size W8 V → Rd V V.heap.size 1 A ss.length (ss.map Value.string) → Calls Try.prog 18 #[.agg #[.slice A ss.length c, .int .i64 tk, .int .i64 kn], .agg #[.slice Ad ss.length cd, .int .i64 tk, .int .i64 kn]] V fun e W' => e = .returned (.bool true) ∧ Below V.heap.size V W') := fun V A c hV hA =>
                same_any A Ad c cd ⟨ss, tk, kn⟩ V (by unfold maxLen; exact hla) hA ((HDr9.out.below hV).mono hV.size)
              have H19 : Hid (∀ V A c, Below W8.heap.size W8 V → Rd V V.heap.size 4 A u.length (frs u) → Calls Try.prog 19 #[.slice A u.length c, .slice Xe u.length ce] V fun e W' => e = .returned (.bool true) ∧ Below V.heap.size V W') := fun V A c hV hA =>
                (sameFrames_any A Xe u.length c ce u V rfl (by unfold maxLen; exact hlx) hA ((HEr9.out.below hV).mono hV.size)).mono fun _ _ ⟨h1, m, h2⟩ => ⟨h1, by rw [h2]; exact below_drewN (Below.refl _ V) m⟩
              have H13 : Hid (∀ V A c, Below W8.heap.size W8 V → Rd V V.heap.size 1 A gl.length (gl.map Value.string) → Calls Try.prog 13 #[.slice A gl.length c, .slice Af gl.length cf] V fun e W' => e = .returned (.bool true) ∧ Below V.heap.size V W') := fun V A c hV hA =>
                (sameTexts_any A Af gl.length c cf gl V rfl (by unfold maxLen; exact hlc) hA ((HFr9.out.below hV).mono hV.size)).mono fun _ _ ⟨h1, m, h2⟩ => ⟨h1, by rw [h2]; exact below_drewN (Below.refl _ V) m⟩
              clear HKc HEX HDr9 HEr9 HFr9 HC12 HC15 HC11 HKW HDv HDo HEo HFo HT8
              go_upto_region 31 with (fail)
              have HS31 : Hid (∀ V, Below W8.heap.size W8 V → (fun V => Below W8.heap.size W8 V ∧ V.cell? ⟨gd, 0, none⟩ = some (.slice Ad ss.length cd) ∧ V.cell? ⟨gd, 1, none⟩ = some (.int .i64 tk) ∧ V.cell? ⟨gd, 2, none⟩ = some (.int .i64 kn)) V) := fun V hB => by
                have a := (HDv9.out.below hB HDv9.out.lt).three
                exact ⟨hB, a.1, a.2.1, a.2.2.1⟩
              have f1 : ∀ A c w, (Instr.field 33 (.agg #[.slice A 0 c, .int .i64 0, .int .i64 0]) 0).run Try.prog w = .ok (.slice A 0 c) w := fun A c w => field_sent A 0 c 0 0 w
              go_region_held3 (fun V => Below W8.heap.size W8 V ∧ V.cell? ⟨gd, 0, none⟩ = some (.slice Ad ss.length cd) ∧ V.cell? ⟨gd, 1, none⟩ = some (.int .i64 tk) ∧ V.cell? ⟨gd, 2, none⟩ = some (.int .i64 kn))
                (first
                  | with_reducible assumption
                  | (refine HS31.out _ ?_; first | with_reducible exact HW2.out | with_reducible exact (Below.refl _ _).drew))
                (first
                  | (go_at_call 12; obtain ⟨hB, -⟩ := ‹Below W8.heap.size W8 _ ∧ _›; (with_reducible refine (HL12.out _ hB).mono ?_); rintro e wq ⟨Aq, cq, rfl, hr9, hb9⟩; have HW2 : Hid (Below W8.heap.size W8 wq) := hB.trans (hb9.mono hB.size); have HR2 := Lib.hid hr9; clear hB hb9 hr9; dsimp only)
                  | (go_at_call 12; obtain ⟨hB, -⟩ := ‹Below W8.heap.size W8 _ ∧ _›; (with_reducible refine (HO12.out _ hB).mono ?_); rintro e wq ⟨Aq, cq, rfl, hb9⟩; have HW2 : Hid (Below W8.heap.size W8 wq) := hB.trans (hb9.mono hB.size); have f2 := f1 Aq cq; clear hB hb9; dsimp only)
                  | (go_at_call 15; obtain ⟨hB, -⟩ := ‹Below W8.heap.size W8 _ ∧ _›; (with_reducible refine (HL15.out _ hB).mono ?_); rintro e wq ⟨Aq, cq, rfl, hr9, hb9⟩; have HW2 : Hid (Below W8.heap.size W8 wq) := hB.trans (hb9.mono hB.size); have HR2 := Lib.hid hr9; clear hB hb9 hr9; dsimp only)
                  | (go_at_call 15; obtain ⟨hB, -⟩ := ‹Below W8.heap.size W8 _ ∧ _›; (with_reducible refine (HO15.out _ hB).mono ?_); rintro e wq ⟨Aq, cq, rfl, hb9⟩; have HW2 : Hid (Below W8.heap.size W8 wq) := hB.trans (hb9.mono hB.size); clear hB hb9; dsimp only)
                  | (go_at_call 11; obtain ⟨hB, -⟩ := ‹Below W8.heap.size W8 _ ∧ _›; (with_reducible refine (HL11.out _ hB).mono ?_); rintro e wq ⟨Aq, cq, rfl, hr9, hb9⟩; have HW2 : Hid (Below W8.heap.size W8 wq) := hB.trans (hb9.mono hB.size); have HR2 := Lib.hid hr9; clear hB hb9 hr9; dsimp only)
                  | (go_at_call 11; obtain ⟨hB, -⟩ := ‹Below W8.heap.size W8 _ ∧ _›; (with_reducible refine (HO11.out _ hB).mono ?_); rintro e wq ⟨Aq, cq, rfl, hb9⟩; have HW2 : Hid (Below W8.heap.size W8 wq) := hB.trans (hb9.mono hB.size); clear hB hb9; dsimp only)
                  | (go_at_call 18; obtain ⟨hB, -⟩ := ‹Below W8.heap.size W8 _ ∧ _›; refine (H18.out _ _ _ hB HR2.out).mono ?_; rintro e wq ⟨rfl, hb9⟩; have HW2 : Hid (Below W8.heap.size W8 wq) := hB.trans (hb9.mono hB.size); clear hB hb9; dsimp only)
                  | (go_at_call 19; obtain ⟨hB, -⟩ := ‹Below W8.heap.size W8 _ ∧ _›; refine (H19.out _ _ _ hB HR2.out).mono ?_; rintro e wq ⟨rfl, hb9⟩; have HW2 : Hid (Below W8.heap.size W8 wq) := hB.trans (hb9.mono hB.size); clear hB hb9; dsimp only)
                  | (go_at_call 13; obtain ⟨hB, -⟩ := ‹Below W8.heap.size W8 _ ∧ _›; refine (H13.out _ _ _ hB HR2.out).mono ?_; rintro e wq ⟨rfl, hb9⟩; have HW2 : Hid (Below W8.heap.size W8 wq) := hB.trans (hb9.mono hB.size); clear hB hb9; dsimp only))
              have HT10 := Lib.hid (HT9.out.over HW2.out)
              clear HT9 HS31 HL12 HL15 HL11 HO12 HO15 HO11 H18 H19 H13
              go_wp2
              go_roundw
              case rel => exact ⟨who + 1, by omega, by go_num, HT10.out⟩
              case measure => simp [intOf]; omega
      · have i1 : ¬ ((who : Int) < 2) := by omega
        go_wp2
        go_ret
        exact ⟨rfl, HB1.out.trans (HT.out.1.2.1.mono hz1)⟩

end Go.Proofs.Ytnbndhmdfheikaa
