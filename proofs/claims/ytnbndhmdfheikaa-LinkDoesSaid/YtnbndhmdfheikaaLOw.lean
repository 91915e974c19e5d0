/- Walk of LinkOnce. By gen_lo.py. -/
import Derived.Test.YtnbndhmdfheikaaLD
import Derived.Test.YtnbndhmdfheikaaLXw
namespace Go.Proofs.Ytnbndhmdfheikaa
open Go.RowKit

theorem rd_prefix {w : World} {B n m : Nat} {A : Option Addr} {a b : List ByteArray} (h : Rd w B 1 A n (b.map Value.string)) (hp : a <+: b) (hm : a.length = m) : Rd w B 1 A m (a.map Value.string) := by
  obtain ⟨r, rfl⟩ := hp
  have hl := h.1
  simp at hl
  refine ⟨by simp [hm], fun hpos => ?_⟩
  obtain ⟨p, e, hb, hc⟩ := h.2 (by omega)
  refine ⟨p, e, hb, fun j u hu => hc j u ?_⟩
  have hj := (List.getElem?_eq_some_iff.1 hu).1
  rw [List.map_append, List.getElem?_append_left hj]
  exact hu

theorem field_sent (A : Option Addr) (n c : Nat) (x y : Int) (w : World) : (Instr.field 33 (.agg #[.slice A n c, .int .i64 x, .int .i64 y]) 0).run Try.prog w = .ok (.slice A n c) w := by kernel_rfl
theorem field_taken (A : Option Addr) (n c : Nat) (x y : Int) (w : World) : (Instr.field 33 (.agg #[.slice A n c, .int .i64 x, .int .i64 y]) 1).run Try.prog w = .ok (.int .i64 x) w := by kernel_rfl
/-- Between two moves. -/
def LinkOk (B : Nat) (w wr : World) : Prop := ∃ st R C, Inv st ∧ LinkAt B B st R C wr ∧ Below B w wr ∧ B ≤ wr.heap.size
/-- Between two calls that answer. -/
def LinkSt (B : Nat) (st : Lk) (R : Nat → Option Addr) (C : Nat → Nat) (w wr : World) : Prop := LinkAt B B st R C wr ∧ Below B w wr ∧ B ≤ wr.heap.size
theorem LinkSt.over {B : Nat} {st : Lk} {R : Nat → Option Addr} {C : Nat → Nat} {w V W : World} (h : LinkSt B st R C w V) (hb : Below V.heap.size V W) : LinkSt B st R C w W :=
  ⟨h.1.over hb, h.2.1.trans (hb.mono h.2.2), Nat.le_trans h.2.2 hb.size⟩
theorem LinkSt.lout {B : Nat} {st st' : Lk} {R : Nat → Option Addr} {C : Nat → Nat} {w V W : World} (h : LinkSt B st R C w V) (hk : LOut B B R V st' W) : ∃ R' C', LinkSt B st' R' C' w W := by
  obtain ⟨R', C', h1, h2⟩ := hk
  exact ⟨R', C', h1, h.2.1.trans (h2.below h.1 h.2.2), Nat.le_trans h.2.2 h2.size⟩

section
variable (B : Nat) (st : Lk) (R : Nat → Option Addr) (C : Nat → Nat)
/-- What the answers about end 0 show. -/
theorem once_got_0 (n : Nat) (hi : Inv st) (hn : (st.g 0).length = n) (V : World) (hl : LinkAt B B st R C V) : Calls Try.prog 11 #[.pointer (some ⟨B, 0, none⟩), .int .i64 0] V fun e W' =>
    ∃ A c, e = .returned (.slice A n c) ∧ Rd W' W'.heap.size 1 A n ((st.g 0).map Value.string) ∧ Below V.heap.size V W' := by
  subst hn
  exact (got_0 B B st R C V hl (by have := hi.fits.g0; omega)).mono fun e W' ⟨A, c, h1, _, _, h3, h2⟩ => ⟨A, c, h1, Rd.of_own h3, h2⟩
theorem once_sent_0 (n : Nat) (hi : Inv st) (hn : (st.g 0).length = n) (V : World) (hl : LinkAt B B st R C V) : Calls Try.prog 12 #[.pointer (some ⟨B, 0, none⟩), .int .i64 1] V fun e W' =>
    ∃ A m c tk kn, e = .returned (.agg #[.slice A m c, .int .i64 tk, .int .i64 kn]) ∧ n ≤ m ∧ m ≤ c ∧ Rd W' W'.heap.size 1 A n ((st.g 0).map Value.string) ∧ Below V.heap.size V W' := by
  have hp := hi.1.half.pre
  have hs := hi.2.sent
  refine (side_1 B B st R C V hl (by omega)).mono fun e W' ⟨A, c, h1, h4, _, h3, h2⟩ => ?_
  exact ⟨A, _, c, _, _, h1, by rw [← hn]; exact hp.length_le, h4, rd_prefix (Rd.of_own h3) hp hn, h2⟩
theorem once_taken_0 (n : Nat) (hi : Inv st) (hn : (st.g 0).length = n) (V : World) (hl : LinkAt B B st R C V) : Calls Try.prog 12 #[.pointer (some ⟨B, 0, none⟩), .int .i64 0] V fun e W' =>
    ∃ A m c kn, e = .returned (.agg #[.slice A m c, .int .i64 (n : Int), .int .i64 kn]) ∧ Below V.heap.size V W' := by
  have ht := hi.1.half.tk
  have hs := hi.1.sent
  refine (side_0 B B st R C V hl (by omega)).mono fun e W' ⟨A, c, h1, h4, _, h3, h2⟩ => ?_
  unfold sideVal at h1
  rw [ht, hn] at h1
  exact ⟨A, _, c, _, h1, h2⟩
/-- What the answers about end 1 show. -/
theorem once_got_1 (n : Nat) (hi : Inv st) (hn : (st.g 1).length = n) (V : World) (hl : LinkAt B B st R C V) : Calls Try.prog 11 #[.pointer (some ⟨B, 0, none⟩), .int .i64 1] V fun e W' =>
    ∃ A c, e = .returned (.slice A n c) ∧ Rd W' W'.heap.size 1 A n ((st.g 1).map Value.string) ∧ Below V.heap.size V W' := by
  subst hn
  exact (got_1 B B st R C V hl (by have := hi.fits.g1; omega)).mono fun e W' ⟨A, c, h1, _, _, h3, h2⟩ => ⟨A, c, h1, Rd.of_own h3, h2⟩
theorem once_sent_1 (n : Nat) (hi : Inv st) (hn : (st.g 1).length = n) (V : World) (hl : LinkAt B B st R C V) : Calls Try.prog 12 #[.pointer (some ⟨B, 0, none⟩), .int .i64 0] V fun e W' =>
    ∃ A m c tk kn, e = .returned (.agg #[.slice A m c, .int .i64 tk, .int .i64 kn]) ∧ n ≤ m ∧ m ≤ c ∧ Rd W' W'.heap.size 1 A n ((st.g 1).map Value.string) ∧ Below V.heap.size V W' := by
  have hp := hi.2.half.pre
  have hs := hi.1.sent
  refine (side_0 B B st R C V hl (by omega)).mono fun e W' ⟨A, c, h1, h4, _, h3, h2⟩ => ?_
  exact ⟨A, _, c, _, _, h1, by rw [← hn]; exact hp.length_le, h4, rd_prefix (Rd.of_own h3) hp hn, h2⟩
theorem once_taken_1 (n : Nat) (hi : Inv st) (hn : (st.g 1).length = n) (V : World) (hl : LinkAt B B st R C V) : Calls Try.prog 12 #[.pointer (some ⟨B, 0, none⟩), .int .i64 1] V fun e W' =>
    ∃ A m c kn, e = .returned (.agg #[.slice A m c, .int .i64 (n : Int), .int .i64 kn]) ∧ Below V.heap.size V W' := by
  have ht := hi.2.half.tk
  have hs := hi.2.sent
  refine (side_1 B B st R C V hl (by omega)).mono fun e W' ⟨A, c, h1, h4, _, h3, h2⟩ => ?_
  unfold sideVal at h1
  rw [ht, hn] at h1
  exact ⟨A, _, c, _, h1, h2⟩
end

set_option maxRecDepth 100000 in
set_option maxHeartbeats 8000000 in
theorem once_walk (A0 : Option Addr) (N c0 : Nat) (list : List Fr) (w : World) (hnm : N ≤ maxLen) (hr : Rd w w.heap.size 4 A0 N (frs list)) :
    Calls Try.prog 3 #[.slice A0 N c0] w fun e w' => e = .returned (.bool true) ∧ Below w.heap.size w w' := by
  have hN : list.length = N := by have := hr.1; rw [frs_len] at this; omega
  have HR := Lib.hid hr
  have HNN := Lib.hid hN
  clear hr hN
  unfold maxLen at hnm
  go_enter Try.func3, Try.ntmps3
  go_wp2_with fail
  refine (wakes_any w).mono ?_
  rintro e w1 ⟨rfl, hb1⟩
  have HB1 := Lib.hid hb1
  clear hb1
  have hz1 : w.heap.size ≤ w1.heap.size := HB1.out.size
  by_cases h400 : 400 < N
  · have i0 : (400 : Int) < (N : Int) := by omega
    go_wp2
    go_ret
    exact ⟨rfl, HB1.out⟩
  have i0 : ¬ ((400 : Int) < (N : Int)) := by omega
  go_wp2_with fail
  refine (new_any w1).mono ?_
  rintro e w2 ⟨rfl, hl2, hb2⟩
  have HM : Hid (LinkOk w1.heap.size w1 w2) := ⟨st0, _, _, Inv.start, hl2, hb2, hb2.size⟩
  clear hl2 hb2
  obtain ⟨B, hB⟩ : ∃ B, B = w1.heap.size := ⟨_, rfl⟩
  rw [← hB] at HM hz1 ⊢
  clear hB
  go_upto_region 7 with (fail)
  go_loopw [17] (fun v17 wr => ∃ k : Nat, k ≤ N ∧ v17 = .int .i64 k ∧ LinkOk B w1 wr) (fun v17 _ => N - (intOf v17).toNat)
  case atStart => exact ⟨0, Nat.zero_le _, rfl, HM.out⟩
  case round =>
    obtain ⟨k, hk, rfl, st, R, C, hi, hl, hb, hz⟩ := hrel
    rename World => V
    have HI := Lib.hid hi
    have HS : Hid (LinkSt B st R C w1 V) := ⟨hl, hb, hz⟩
    have HB : Hid (Below w.heap.size w V) := HB1.out.trans (hb.mono hz1)
    clear hi hl hb
    by_cases hlt : k < N
    · have hlt' : k < list.length := by have := HNN.out; omega
      obtain ⟨a, rfl, _, a0, a1, a2, a3⟩ := (HR.out.below HB.out).frame hlt'
      have i1 : (0 : Int) ≤ (k : Int) := by omega
      have i2 : (k : Int) < (N : Int) := by omega
      generalize hx : list[k] = x at *
      clear hx
      obtain ⟨V2, hV2⟩ : ∃ V2, V2 = V.alloc (.cells #[.int .i64 x.kind, .int .i64 x.num, .int .i64 x.taken, .string x.body] 27) := ⟨_, rfl⟩
      have hbk : Bk V2 V.heap.size 27 #[.int .i64 x.kind, .int .i64 x.num, .int .i64 x.taken, .string x.body] := by rw [hV2]; exact Bk.new _ _ _
      have HS2 : Hid (LinkSt B st R C w1 V2) := HS.out.over (by rw [hV2]; exact (Below.refl _ V).alloc (Nat.le_refl _) _)
      have HV2 := Lib.hid hV2
      clear hV2
      go_upto_region 9 with (fail)
      rw [← HV2.out]
      clear HV2 a0 a1 a2 a3
      have q0 : V2.cell? ⟨V.heap.size, 0, none⟩ = some (.int .i64 x.kind) := by rw [hbk.cell]; rfl
      have q1 : V2.cell? ⟨V.heap.size, 1, none⟩ = some (.int .i64 x.num) := by rw [hbk.cell]; rfl
      have q2 : V2.cell? ⟨V.heap.size, 2, none⟩ = some (.int .i64 x.taken) := by rw [hbk.cell]; rfl
      have q3 : V2.cell? ⟨V.heap.size, 3, none⟩ = some (.string x.body) := by rw [hbk.cell]; rfl
      clear hbk
      go_wp2_with fail
      refine (does_any B B st x R C V2 HI.out HS2.out.1 HS2.out.2.2).mono ?_
      rintro e V3 ⟨rfl, hk3⟩
      have hi3 := HI.out.does x
      obtain ⟨st3, hst3⟩ : ∃ st3, st3 = (doesK st x).1 := ⟨_, rfl⟩
      obtain ⟨R3, C3, hs3⟩ := HS2.out.lout hk3
      rw [← hst3] at hi3 hs3
      have HI3 := Lib.hid hi3
      have HS3 := Lib.hid hs3
      generalize (doesK st x).2 = er
      clear hk3 hi3 hs3 hst3 HS2 HS HI q0 q1 q2 q3
      clear hz R C st
      revert HS3 HI3 C3 R3 st3
      intro st R C HI HM3
      go_upto_region 11 with (fail)
      go_loopw [6] (fun v6 wr => ∃ who : Nat, who ≤ 2 ∧ v6 = .int .i64 who ∧ LinkSt B st R C w1 wr) (fun v6 _ => 2 - (intOf v6).toNat)
      case atStart => exact ⟨0, by omega, rfl, HM3.out⟩
      case round =>
        clear HM3
        obtain ⟨who, hwho, rfl, hs⟩ := hrel
        rename World => Y
        have HS := Lib.hid hs
        clear hs
        have hcase : who = 0 ∨ who = 1 ∨ who = 2 := by omega
        clear hwho
        rcases hcase with hw0 | hw1 | hw2
        · subst hw0
          go_wp2_with fail
          refine (once_got_0 B st R C _ HI.out rfl _ HS.out.1).mono ?_
          rintro e w3 ⟨A3, c3, rfl, hr3, hb3⟩
          have HS3 := Lib.hid (HS.out.over hb3)
          have HR3 := Lib.hid hr3
          clear hr3 hb3
          go_wp2_with fail
          refine (once_sent_0 B st R C _ HI.out rfl _ HS3.out.1).mono ?_
          rintro e w4 ⟨A4, m4, c4, tk4, kn4, rfl, hm4, hc4, hr4, hb4⟩
          have HS4 := Lib.hid (HS3.out.over hb4)
          have HR3' := Lib.hid ((HR3.out.below hb4).mono hb4.size)
          have HR4 := Lib.hid hr4
          have HT := Lib.hid (fun V hl => once_taken_0 B st R C _ HI.out rfl V hl)
          have HLN : Hid ((st.g 0).length ≤ maxLen) := by have := HI.out.fits.g0; exact Lib.hid (by unfold maxLen; omega)
          obtain ⟨n, hn⟩ : ∃ n, n = (st.g 0).length := ⟨_, rfl⟩
          have HN := Lib.hid hn.symm
          rw [← hn] at HR3' HR4 hm4 HT HLN ⊢
          clear hr4 hb4 HR3 HS3 hn
          have f1 := field_sent A4 m4 c4 tk4 kn4
          have i1 : (0 : Int) ≤ (n : Int) := by omega
          have i2 : (n : Int) ≤ (m4 : Int) := by omega
          have i3 : (n : Int) ≤ (c4 : Int) := by omega
          have i4 : ¬ ((m4 : Int) < (n : Int)) := by omega
          go_wp2_with fail
          refine (sameTexts_any A3 A4 n c3 c4 (st.g 0) w4 HN.out HLN.out HR3'.out HR4.out).mono ?_
          rintro e w5 ⟨rfl, m5, rfl⟩
          have HS5 := Lib.hid (HS4.out.over (below_drewN (Below.refl _ w4) m5))
          clear HR3' HR4 HS4
          go_wp2_with fail
          refine (HT.out _ HS5.out.1).mono ?_
          rintro e w6 ⟨A6, m6, c6, kn6, rfl, hb6⟩
          have HS6 := Lib.hid (HS5.out.over hb6)
          have f2 := field_taken A6 m6 c6 n kn6
          clear hb6 HS5
          go_wp2
          go_roundw
          case rel => exact ⟨0 + 1, by omega, by go_num, HS6.out⟩
          case measure => simp [intOf]
        · subst hw1
          go_wp2_with fail
          refine (once_got_1 B st R C _ HI.out rfl _ HS.out.1).mono ?_
          rintro e w3 ⟨A3, c3, rfl, hr3, hb3⟩
          have HS3 := Lib.hid (HS.out.over hb3)
          have HR3 := Lib.hid hr3
          clear hr3 hb3
          go_wp2_with fail
          refine (once_sent_1 B st R C _ HI.out rfl _ HS3.out.1).mono ?_
          rintro e w4 ⟨A4, m4, c4, tk4, kn4, rfl, hm4, hc4, hr4, hb4⟩
          have HS4 := Lib.hid (HS3.out.over hb4)
          have HR3' := Lib.hid ((HR3.out.below hb4).mono hb4.size)
          have HR4 := Lib.hid hr4
          have HT := Lib.hid (fun V hl => once_taken_1 B st R C _ HI.out rfl V hl)
          have HLN : Hid ((st.g 1).length ≤ maxLen) := by have := HI.out.fits.g1; exact Lib.hid (by unfold maxLen; omega)
          obtain ⟨n, hn⟩ : ∃ n, n = (st.g 1).length := ⟨_, rfl⟩
          have HN := Lib.hid hn.symm
          rw [← hn] at HR3' HR4 hm4 HT HLN ⊢
          clear hr4 hb4 HR3 HS3 hn
          have f1 := field_sent A4 m4 c4 tk4 kn4
          have i1 : (0 : Int) ≤ (n : Int) := by omega
          have i2 : (n : Int) ≤ (m4 : Int) := by omega
          have i3 : (n : Int) ≤ (c4 : Int) := by omega
          have i4 : ¬ ((m4 : Int) < (n : Int)) := by omega
          go_wp2_with fail
          refine (sameTexts_any A3 A4 n c3 c4 (st.g 1) w4 HN.out HLN.out HR3'.out HR4.out).mono ?_
          rintro e w5 ⟨rfl, m5, rfl⟩
          have HS5 := Lib.hid (HS4.out.over (below_drewN (Below.refl _ w4) m5))
          clear HR3' HR4 HS4
          go_wp2_with fail
          refine (HT.out _ HS5.out.1).mono ?_
          rintro e w6 ⟨A6, m6, c6, kn6, rfl, hb6⟩
          have HS6 := Lib.hid (HS5.out.over hb6)
          have f2 := field_taken A6 m6 c6 n kn6
          clear hb6 HS5
          go_wp2
          go_roundw
          case rel => exact ⟨1 + 1, by omega, by go_num, HS6.out⟩
          case measure => simp [intOf]
        · subst hw2
          go_wp2_with fail
          go_roundw
          case rel => exact ⟨k + 1, by omega, by go_num, st, R, C, HI.out, HS.out⟩
          case measure => simp [intOf]; omega
    · have i3 : ¬ ((k : Int) < (N : Int)) := by omega
      go_wp2
      go_ret
      exact ⟨rfl, HB.out⟩

end Go.Proofs.Ytnbndhmdfheikaa
