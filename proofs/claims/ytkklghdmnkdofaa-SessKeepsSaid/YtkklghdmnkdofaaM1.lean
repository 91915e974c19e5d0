/- Walk of SessMends. -/
import Derived.Test.YtkklghdmnkdofaaM0
namespace Go.Proofs.Ytkklghdmnkdofaa
open Go.RowKit

/-- Behind some rounds of the first loop: the block g holds an end that took nothing. -/
def MendAt (w : World) (g : Nat) (wr : World) : Prop :=
  w.heap.size ≤ g ∧ ∃ (A : Option Addr) (c : Nat) (ss : List ByteArray), goodB ⟨ss, 0, 0⟩ = true ∧ Bk wr g 24 #[.slice A ss.length c, .int .i64 0, .int .i64 0] ∧ Rd wr wr.heap.size 1 A ss.length (ss.map Value.string) ∧ Below w.heap.size w wr

/-- Behind the first loop: the blocks g (the sender) and g2 (the taker), with t taken. -/
structure RB (w : World) (g g2 : Nat) (A : Option Addr) (c : Nat) (ss : List ByteArray) (t : Int) (wr : World) : Prop where
  s : Bk wr g 24 #[.slice A ss.length c, .int .i64 0, .int .i64 0]
  r : ∃ B d, Bk wr g2 24 #[.slice B 0 d, .int .i64 t, .int .i64 0]
  l : Rd wr g2 1 A ss.length (ss.map Value.string)
  b : Below w.heap.size w wr
  hi : w.heap.size ≤ g2
  ne : g < g2

section
variable {w wr w' : World} {g g2 : Nat} {A : Option Addr} {c : Nat} {ss : List ByteArray} {t : Int}
theorem RB.lt (h : RB w g g2 A c ss t wr) : g2 < wr.heap.size := by obtain ⟨_, _, h⟩ := h.r; exact h.lt
theorem RB.below {B : Nat} (h : RB w g g2 A c ss t wr) (hb : Below B wr w') (h2 : g2 < B) : RB w g g2 A c ss t w' := by
  obtain ⟨D, d, hr⟩ := h.r
  refine ⟨h.s.below hb (by have := h.ne; omega), ⟨D, d, hr.below hb h2⟩, h.l.of_cells fun p hp => hb.cell (by omega), h.b.trans (hb.mono (by have := h.hi; omega)), h.hi, h.ne⟩
theorem RB.alloc (h : RB w g g2 A c ss t wr) (o : Obj) : RB w g g2 A c ss t (wr.alloc o) := by
  obtain ⟨D, d, hr⟩ := h.r
  have h2 := h.lt
  have h3 := h.hi
  exact ⟨h.s.alloc _, ⟨D, d, hr.alloc _⟩, h.l.alloc (by omega) _, h.b.alloc (by omega) _, h.hi, h.ne⟩
theorem RB.set {D : Option Addr} {d : Nat} {t' : Int} (h : RB w g g2 A c ss t wr) :
    RB w g g2 A c ss t' (((wr.setCell ⟨g2, 0, none⟩ (.slice D 0 d)).setCell ⟨g2, 1, none⟩ (.int .i64 t')).setCell ⟨g2, 2, none⟩ (.int .i64 0)) := by
  obtain ⟨D0, d0, hr⟩ := h.r
  have hne : g ≠ g2 := by have := h.ne; omega
  exact ⟨((h.s.far (p := ⟨g2, 0, none⟩) hne _).far (p := ⟨g2, 1, none⟩) hne _).far (p := ⟨g2, 2, none⟩) hne _, ⟨D, d, ((hr.set 0 _).set 1 _).set 2 _⟩,
    ((h.l.setCell (p := ⟨g2, 0, none⟩) (Nat.le_refl _) _).setCell (p := ⟨g2, 1, none⟩) (Nat.le_refl _) _).setCell (p := ⟨g2, 2, none⟩) (Nat.le_refl _) _,
    by refine Below.setCell (Below.setCell (Below.setCell h.b ?_ _) ?_ _) ?_ _ <;> exact h.hi, h.hi, h.ne⟩
end

set_option maxRecDepth 100000 in
set_option maxHeartbeats 2000000 in
theorem mends_walk (A0 : Option Addr) (N c0 : Nat) (list : List ByteArray) (tk : Int) (w : World) (hnm : N ≤ maxLen) (hr : Rd w w.heap.size 1 A0 N (list.map Value.string)) :
    Calls Try.prog 8 #[.slice A0 N c0, .int .i64 tk] w fun e w' => e = .returned (.bool true) ∧ Below w.heap.size w w' := by
  have hN : list.length = N := by simpa using hr.1
  have HR := Lib.hid hr
  have HNN := Lib.hid hN
  clear hr hN
  unfold maxLen at hnm
  go_enter Try.func8, Try.ntmps8
  go_wp2_with fail
  refine (wakes_any w).mono ?_
  rintro e w1 ⟨rfl, hb1⟩
  have HB1 := Lib.hid hb1
  clear hb1
  have hz1 : w.heap.size ≤ w1.heap.size := HB1.out.size
  obtain ⟨W1, hW1⟩ : ∃ W1, W1 = w1.alloc (.cells #[.slice none 0 0, .int .i64 0, .int .i64 0] 24) := ⟨_, rfl⟩
  have HM : Hid (MendAt w w1.heap.size W1) := by
    refine ⟨hz1, none, 0, [], by decide, ?_, Rd.nil _ _ _ _, ?_⟩
    · rw [hW1]; exact Bk.new _ _ _
    · rw [hW1]; exact HB1.out.alloc hz1 _
  go_upto_region 5 with (fail)
  rw [← hW1]
  clear hW1
  go_loopw [34] (fun i wr => ∃ k : Nat, k ≤ N ∧ i = .int .i64 k ∧ MendAt w w1.heap.size wr) (fun i _ => N - (intOf i).toNat)
  case atStart => exact ⟨0, Nat.zero_le _, rfl, HM.out⟩
  case round =>
    obtain ⟨k, hk, rfl, hgw, A, c, ss, hgd, hbk, hrd, hbl⟩ := hrel
    rename World => V
    have HGD := Lib.hid hgd
    have HRD := Lib.hid hrd
    have HBL := Lib.hid hbl
    have HBK := Lib.hid hbk
    obtain ⟨q0, q1, q2, z0, z1, z2, hg⟩ := hbk.three
    clear hgd hrd hbl hbk
    by_cases hlt : k < N
    · have hlt' : k < list.length := by have := HNN.out; omega
      obtain ⟨a, rfl, _, ca⟩ := (HR.out.below HBL.out).cell (j := k) (u := .string (list[k])) (by simp)
      have i1 : (0 : Int) ≤ (k : Int) := by omega
      have i2 : (k : Int) < (N : Int) := by omega
      go_wp2_with fail
      refine (send_any A ss.length c ⟨ss, 0, 0⟩ list[k] V (by have := (good_parts HGD.out).1; simp only [maxLen] at this ⊢; omega) HRD.out).mono ?_
      rintro e w2 hout
      clear q0 q1 q2 z0 z1 z2 hg ca
      rcases send_cases ss list[k] HGD.out with ⟨hs, hg2⟩ | ⟨er, her, hs⟩
      · obtain ⟨ss2, hss2⟩ : ∃ x, x = ss ++ [list[k]] := ⟨_, rfl⟩
        rw [← hss2] at hs hg2
        rw [hs] at hout
        obtain ⟨A2, c2, rfl, hc2, hm2, hown, hb2⟩ := hout
        dsimp only at hc2 hown ⊢
        unfold sideVal Fr.val
        dsimp only
        have HOWN := Lib.hid hown
        have HG2 := Lib.hid hg2
        have HB2 := Lib.hid hb2
        have HBK2 : Hid (Bk w2 w1.heap.size 24 #[.slice A ss.length c, .int .i64 0, .int .i64 0]) := HBK.out.below hb2 HBK.out.lt
        obtain ⟨q0, q1, q2, z0, z1, z2, hg⟩ := HBK2.out.three
        clear hs hss2 hown hg2 hb2
        go_wp2_with fail
        go_roundw
        case rel =>
          have hsz := HB2.out.size
          have hlt1 := HBK.out.lt
          have hb0 := HBL.out.size
          refine ⟨k + 1, by omega, by go_num, hgw, A2, c2, ss2, HG2.out, ?_, ?_, ?_⟩
          · exact (((((HBK2.out.set 0 (.slice A2 ss2.length c2)).set 1 (.int .i64 0)).set 2 (.int .i64 0)).alloc _).alloc _)
          · exact Rd.of_own (((ownsRow_setCell_below (ownsRow_setCell_below (ownsRow_setCell_below HOWN.out (a := ⟨w1.heap.size, 0, none⟩) hlt1 _) (a := ⟨w1.heap.size, 1, none⟩) hlt1 _) (a := ⟨w1.heap.size, 2, none⟩) hlt1 _).alloc _).alloc _)
          · refine ((((Below.setCell (Below.setCell (Below.setCell (HBL.out.trans (HB2.out.mono hb0)) ?_ _) ?_ _) ?_ _).alloc ?_ _).alloc ?_ _))
            all_goals first | exact hgw | (simp; omega)
        case measure => simp [intOf]; omega
      · rw [hs] at hout
        obtain ⟨A2, c2, rfl, hc2, hm2, hown, hb2⟩ := hout
        dsimp only at hc2 hown ⊢
        unfold sideVal Fr.val zeroFr noBytes
        dsimp only [List.length_nil]
        have HB2 := Lib.hid hb2
        have e1 : (er == 0) = false := by simpa using her
        have e2 : (er != 0) = true := by simpa using her
        clear hs hown hb2
        go_wp2
        go_roundw
        case rel =>
          have hsz := HB2.out.size
          refine ⟨k + 1, by omega, by go_num, hgw, A, c, ss, HGD.out, ?_, ?_, ?_⟩
          · exact ((HBK.out.below HB2.out HBK.out.lt).alloc _).alloc _
          · exact (((HRD.out.below HB2.out).alloc hsz _).alloc (by simp; omega) _).mono (by simp; omega)
          · have hb0 := HBL.out.size
            exact ((HBL.out.trans (HB2.out.mono hb0)).alloc (by omega) _).alloc (by simp; omega) _
        case measure => simp [intOf]; omega
    · have i3 : ¬ ((k : Int) < (N : Int)) := by omega
      by_cases hneg : tk < 0
      · go_wp2
        go_ret
        exact ⟨rfl, HBL.out⟩
      by_cases hgt : tk > (ss.length : Int)
      · go_wp2
        go_ret
        exact ⟨rfl, HBL.out⟩
      have hnn := (good_parts HGD.out).1
      dsimp only at hnn
      obtain ⟨tn, rfl⟩ : ∃ tn : Nat, tk = tn := ⟨tk.toNat, by omega⟩
      obtain ⟨W2, hW2⟩ : ∃ W2, W2 = V.alloc (.cells #[.slice none 0 0, .int .i64 (tn : Int), .int .i64 0] 24) := ⟨_, rfl⟩
      have HX1 : Hid (RB w w1.heap.size V.heap.size A c ss (tn : Int) W2) := by
        have hb0 := HBL.out.size
        rw [hW2]
        exact ⟨HBK.out.alloc _, ⟨none, 0, Bk.new _ _ _⟩, HRD.out.alloc (Nat.le_refl _) _, HBL.out.alloc hb0 _, hb0, HBK.out.lt⟩
      go_upto_region 15 with (fail)
      rw [← hW2]
      clear hW2 q0 q1 q2 z0 z1 z2 hg
      have hgd2 := HGD.out
      have hssl : (⟨ss, 0, 0⟩ : Sd).sent.length ≤ maxLen := by dsimp only [maxLen]; omega
      obtain ⟨q0, q1, q2, z0, z1, z2, hg⟩ := HX1.out.s.three
      go_wp2_with fail
      refine (tick_yes A ss.length c ⟨ss, 0, 0⟩ W2 hssl (HX1.out.l.mono (Nat.le_of_lt HX1.out.lt)) HGD.out).mono ?_
      rintro e w4 ⟨rfl, hb4⟩
      clear q0 q1 q2 z0 z1 z2 hg
      have HX2 : Hid (RB w w1.heap.size V.heap.size A c ss (tn : Int) w4) := HX1.out.below hb4 HX1.out.lt
      clear hb4
      obtain ⟨W5, hW5⟩ : ∃ W5, W5 = w4.alloc (.cells #[.int .i64 3, .int .i64 (ss.length : Int), .int .i64 0, .string noBytes] 26) := ⟨_, rfl⟩
      have HX3 : Hid (RB w w1.heap.size V.heap.size A c ss (tn : Int) W5) := by rw [hW5]; exact HX2.out.alloc _
      have hbt : Bk W5 w4.heap.size 26 #[.int .i64 3, .int .i64 (ss.length : Int), .int .i64 0, .string noBytes] := by rw [hW5]; exact Bk.new _ _ _
      go_upto_region 16 with (fail)
      rw [← hW5]
      clear hW5
      obtain ⟨D3, d3, hr3⟩ := HX3.out.r
      have HR3 := Lib.hid hr3
      clear hr3
      obtain ⟨q0, q1, q2, z0, z1, z2, hg⟩ := HR3.out.three
      obtain ⟨f0, f1, f2, f3, e0, e1, e2, e3, hg3⟩ := hbt.four
      have htk := take_beat (ss.length : Int) (tn : Int) (by omega) (by omega) (by omega) (by omega)
      obtain ⟨l, hl⟩ : ∃ l : List Fr, l = if (tn : Int) < (ss.length : Int) then [⟨2, (tn : Int) + 1, (tn : Int), noBytes⟩] else [] := ⟨_, rfl⟩
      rw [← hl] at htk
      have HT := Lib.hid htk
      have HL := Lib.hid hl
      clear htk hl
      have htake := take_any D3 0 d3 ⟨[], tn, 0⟩ ⟨3, ss.length, 0, noBytes⟩ W5 (Nat.zero_le _) (Rd.nil _ _ _ _)
      rw [HT.out] at htake
      have HTK := Lib.hid htake
      clear htake
      go_wp2_with fail
      refine HTK.out.mono ?_
      rintro e w6 ⟨A6, c6, X6, d6, rfl, hc6, hm6, hd6, he6, ho6, hx6, hb6⟩
      clear q0 q1 q2 z0 z1 z2 hg f0 f1 f2 f3 e0 e1 e2 e3 hg3
      dsimp only at hc6 hd6 ho6 hx6 ⊢
      unfold sideVal noBytes
      dsimp only [List.length_nil]
      have HX4 : Hid (RB w w1.heap.size V.heap.size A c ss (tn : Int) w6) := HX3.out.below hb6 HX3.out.lt
      have HO := Lib.hid hx6
      have hg5 : V.heap.size < W5.heap.size := HX3.out.lt
      clear hb6 ho6 hx6 hc6 hm6
      obtain ⟨D4, d4, hr4⟩ := HX4.out.r
      have HR4 := Lib.hid hr4
      clear hr4
      obtain ⟨q0, q1, q2, z0, z1, z2, hg⟩ := HR4.out.three
      go_upto_region 19 with (fail)
      obtain ⟨W7, hW7⟩ : ∃ W7, W7 = (((w6.setCell ⟨V.heap.size, 0, none⟩ (.slice A6 0 c6)).setCell ⟨V.heap.size, 1, none⟩ (.int .i64 (tn : Int))).setCell ⟨V.heap.size, 2, none⟩ (.int .i64 0)) := ⟨_, rfl⟩
      have HX5 : Hid (RB w w1.heap.size V.heap.size A c ss (tn : Int) W7) := by rw [hW7]; exact HX4.out.set
      have HO5 : Hid (W7.ownsRow W5.heap.size 26 4 (.slice X6 l.length d6) l.length (frs l)) := by
        rw [hW7]
        exact ownsRow_setCell_below (ownsRow_setCell_below (ownsRow_setCell_below HO.out (a := ⟨V.heap.size, 0, none⟩) hg5 _) (a := ⟨V.heap.size, 1, none⟩) hg5 _) (a := ⟨V.heap.size, 2, none⟩) hg5 _
      rw [← hW7]
      clear hW7 q0 q1 q2 z0 z1 z2 hg
      obtain ⟨m, hm⟩ : ∃ m, m = l.length := ⟨_, rfl⟩
      have hm1 : ((tn : Int) < (ss.length : Int) ∧ m = 1) ∨ ((tn : Int) = (ss.length : Int) ∧ m = 0) := by
        rw [hm, HL.out]
        by_cases htn : (tn : Int) < (ss.length : Int)
        · rw [if_pos htn]; exact .inl ⟨htn, rfl⟩
        · rw [if_neg htn]; exact .inr ⟨by omega, rfl⟩
      rw [← hm] at hd6 HO5 ⊢
      have hmm : min ((ss.length : Int) - (tn : Int)) 1 = (m : Int) := by omega
      have HMM := Lib.hid hm
      clear hm
      go_upto_region 22 with (fail)
      all_goals
        go_loopw [93] (fun i wq => ∃ k2 : Nat, k2 ≤ m ∧ i = .int .i64 k2 ∧ RB w w1.heap.size V.heap.size A c ss (if k2 = 0 then (tn : Int) else (min ss.length (tn + 64) : Nat)) wq ∧ wq.ownsRow W5.heap.size 26 4 (.slice X6 m d6) m (frs l)) (fun i _ => m - (intOf i).toNat)
        case atStart => exact ⟨0, Nat.zero_le _, rfl, HX5.out, HO5.out⟩
        case round =>
          obtain ⟨k2, hk2, rfl, hx, ho⟩ := hrel
          have HX6 := Lib.hid hx
          have HO6 := Lib.hid ho
          clear hx ho
          by_cases hlt2 : k2 < m
          · obtain ⟨htn, rfl⟩ : tn < ss.length ∧ m = 1 := by omega
            obtain rfl : k2 = 0 := by omega
            have hle : l = [⟨2, (tn : Int) + 1, (tn : Int), noBytes⟩] := by rw [HL.out, if_pos (by omega)]
            have hfr := (Rd.of_own HO6.out).frame (k := 0) (by rw [hle]; simp)
            simp only [hle, List.getElem_cons_zero] at hfr
            obtain ⟨a, hXa, _, f0, f1, f2, f3⟩ := hfr
            subst hXa
            simp only [Nat.zero_mul, show a.add 0 = a from by simp [Addr.add]] at f0 f1 f2 f3
            obtain ⟨Wb, hWb⟩ : ∃ Wb, Wb = wr.alloc (.cells #[.int .i64 2, .int .i64 ((tn : Int) + 1), .int .i64 (tn : Int), .string noBytes] 26) := ⟨_, rfl⟩
            have HXb : Hid (RB w w1.heap.size V.heap.size A c ss (tn : Int) Wb) := by
              have h := HX6.out
              rw [if_pos rfl] at h
              rw [hWb]; exact h.alloc _
            have HOb : Hid (Wb.ownsRow W5.heap.size 26 4 (.slice (some a) 1 d6) 1 (frs l)) := by rw [hWb]; exact HO6.out.alloc _
            have hbx : Bk Wb wr.heap.size 26 #[.int .i64 2, .int .i64 ((tn : Int) + 1), .int .i64 (tn : Int), .string noBytes] := by rw [hWb]; exact Bk.new _ _ _
            have htk2 := take_ask ss (tn : Int) HGD.out (by omega) (by omega)
            have hLn := again_at ss tn htn
            obtain ⟨L, hL⟩ : ∃ L, L = (⟨ss, 0, 0⟩ : Sd).again ((tn : Int) + 1) := ⟨_, rfl⟩
            obtain ⟨KN, hKN⟩ : ∃ KN, KN = (⟨ss, 0, 0⟩ : Sd).knows (tn : Int) := ⟨_, rfl⟩
            rw [← hL] at hLn
            rw [← hL, ← hKN] at htk2
            have htake2 := take_any A ss.length c ⟨ss, 0, 0⟩ ⟨2, (tn : Int) + 1, (tn : Int), noBytes⟩ Wb hssl (HXb.out.l.mono (Nat.le_of_lt HXb.out.lt))
            rw [htk2] at htake2
            have HTK2 := Lib.hid htake2
            have HLL := Lib.hid hL
            have HLN := Lib.hid hLn
            clear htake2 htk2 hL hKN hmm hm1 hLn
            have HLE := Lib.hid hle
            clear hle
            go_upto_region 24 with (fail)
            rw [← hWb]
            clear hWb f0 f1 f2 f3
            obtain ⟨q0, q1, q2, z0, z1, z2, hg⟩ := HXb.out.s.three
            obtain ⟨f0, f1, f2, f3, e0, e1, e2, e3, hg3⟩ := hbx.four
            go_wp2_with fail
            refine HTK2.out.mono ?_
            rintro e w8 ⟨A8, c8, X8, d8, rfl, hc8, hm8, hd8, he8, ho8, hx8, hb8⟩
            clear q0 q1 q2 z0 z1 z2 hg f0 f1 f2 f3 e0 e1 e2 e3 hg3
            dsimp only at hd8 hx8 ⊢
            have HX8 : Hid (RB w w1.heap.size V.heap.size A c ss (tn : Int) w8) := HXb.out.below hb8 HXb.out.lt
            have HO8 : Hid (w8.ownsRow W5.heap.size 26 4 (.slice (some a) 1 d6) 1 (frs l)) := HOb.out.kept (row := none) ⟨hb8.os, hb8.tape, hb8.output, hb8.size, fun j hj _ => hb8.block j hj⟩ (by cases (Value.slice (some a) 1 d6).ownBlock <;> simp)
            have HP8 := Lib.hid hx8
            have hg8 : V.heap.size < Wb.heap.size := HXb.out.lt
            clear hb8 ho8 hx8 hc8 hm8
            unfold sideVal
            obtain ⟨W9, hW9⟩ : ∃ W9, W9 = w8.alloc (.cells #[.slice A8 KN.sent.length c8, .int .i64 KN.taken, .int .i64 KN.known] 24) := ⟨_, rfl⟩
            have HX9 : Hid (RB w w1.heap.size V.heap.size A c ss (tn : Int) W9) := by rw [hW9]; exact HX8.out.alloc _
            have HO9 : Hid (W9.ownsRow W5.heap.size 26 4 (.slice (some a) 1 d6) 1 (frs l)) := by rw [hW9]; exact HO8.out.alloc _
            have HP9 : Hid (W9.ownsRow Wb.heap.size 26 4 (.slice X8 L.length d8) L.length (frs L)) := by rw [hW9]; exact HP8.out.alloc _
            go_upto_region 28 with (fail)
            rw [← hW9]
            clear hW9
            go_loopw [109] (fun i wq => ∃ k3 : Nat, k3 ≤ L.length ∧ i = .int .i64 k3 ∧ RB w w1.heap.size V.heap.size A c ss ((tn : Int) + (k3 : Int)) wq ∧ wq.ownsRow Wb.heap.size 26 4 (.slice X8 L.length d8) L.length (frs L) ∧ wq.ownsRow W5.heap.size 26 4 (.slice (some a) 1 d6) 1 (frs l)) (fun i _ => L.length - (intOf i).toNat)
            case atStart => exact ⟨0, Nat.zero_le _, rfl, by simpa using HX9.out, HP9.out, HO9.out⟩
            case round =>
              obtain ⟨k3, hk3, rfl, hx, hp, ho⟩ := hrel
              have HXr := Lib.hid hx
              have HPr := Lib.hid hp
              have HOr := Lib.hid ho
              clear hx hp ho
              by_cases hlt3 : k3 < L.length
              · have hk3' : tn + k3 < ss.length := by have := HLN.out; omega
                have hfr := (Rd.of_own HPr.out).frame (k := k3) hlt3
                have hLk : L[k3] = ⟨1, (tn : Int) + k3 + 1, 0, ss[tn + k3]⟩ := by
                  have h := HLL.out
                  subst h
                  exact again_get ss tn k3 hlt3 hk3'
                have hfit : fitsB ss[tn + k3] = true := by
                  have h := (good_parts HGD.out).2.2.2.2.2
                  exact List.all_eq_true.1 h _ (List.getElem_mem _)
                obtain ⟨aA, hAA, _, _⟩ := HXr.out.l.cell (j := tn + k3) (u := .string ss[tn + k3]) (by simp)
                obtain ⟨bs, hbs⟩ : ∃ bs, bs = ss[tn + k3] := ⟨_, rfl⟩
                rw [← hbs] at hfit hLk
                rw [hLk] at hfr
                obtain ⟨a3, hXa3, _, f0, f1, f2, f3⟩ := hfr
                dsimp only at f0 f1 f2 f3
                have hbs' : ss[tn + k3]? = some bs := by rw [hbs]; simp
                have HBS := Lib.hid hbs'
                subst hXa3
                subst hAA
                clear hLk hbs hbs'
                obtain ⟨D9, d9, hr9⟩ := HXr.out.r
                have htk3 := take_data ((tn : Int) + (k3 : Int)) bs (by omega) (by omega) hfit
                obtain ⟨Wc, hWc⟩ : ∃ Wc, Wc = wr.alloc (.cells #[.int .i64 1, .int .i64 ((tn : Int) + k3 + 1), .int .i64 0, .string bs] 26) := ⟨_, rfl⟩
                have HXc : Hid (RB w w1.heap.size V.heap.size (some aA) c ss ((tn : Int) + (k3 : Int)) Wc) := by rw [hWc]; exact HXr.out.alloc _
                have HPc : Hid (Wc.ownsRow Wb.heap.size 26 4 (.slice (some a3) L.length d8) L.length (frs L)) := by rw [hWc]; exact HPr.out.alloc _
                have HOc : Hid (Wc.ownsRow W5.heap.size 26 4 (.slice (some a) 1 d6) 1 (frs l)) := by rw [hWc]; exact HOr.out.alloc _
                have hrc : Bk Wc V.heap.size 24 #[.slice D9 0 d9, .int .i64 ((tn : Int) + (k3 : Int)), .int .i64 0] := by rw [hWc]; exact hr9.alloc _
                have hcx : Bk Wc wr.heap.size 26 #[.int .i64 1, .int .i64 ((tn : Int) + k3 + 1), .int .i64 0, .string bs] := by rw [hWc]; exact Bk.new _ _ _
                have htake3 := take_any D9 0 d9 ⟨[], (tn : Int) + (k3 : Int), 0⟩ ⟨1, (tn : Int) + k3 + 1, 0, bs⟩ Wc (Nat.zero_le _) (Rd.nil _ _ _ _)
                rw [htk3] at htake3
                have HTK3 := Lib.hid htake3
                clear htake3 htk3 hfit hr9
                go_upto_region 30 with (fail)
                rw [← hWc]
                clear hWc f0 f1 f2 f3
                obtain ⟨q0, q1, q2, z0, z1, z2, hg⟩ := hrc.three
                obtain ⟨f0, f1, f2, f3, e0, e1, e2, e3, hg3⟩ := hcx.four
                go_wp2_with fail
                refine HTK3.out.mono ?_
                rintro e w10 ⟨A10, c10, X10, d10, rfl, hc10, hm10, hd10, he10, ho10, hx10, hb10⟩
                clear q0 q1 q2 z0 z1 z2 hg f0 f1 f2 f3 e0 e1 e2 e3 hg3 hrc hcx
                dsimp only at hd10 ⊢
                have HX10 : Hid (RB w w1.heap.size V.heap.size (some aA) c ss ((tn : Int) + (k3 : Int)) w10) := HXc.out.below hb10 HXc.out.lt
                have HO10 : Hid (w10.ownsRow W5.heap.size 26 4 (.slice (some a) 1 d6) 1 (frs l)) := HOc.out.kept (row := none) ⟨hb10.os, hb10.tape, hb10.output, hb10.size, fun j hj _ => hb10.block j hj⟩ (by cases (Value.slice (some a) 1 d6).ownBlock <;> simp)
                have HP10 : Hid (w10.ownsRow Wb.heap.size 26 4 (.slice (some a3) L.length d8) L.length (frs L)) := HPc.out.kept (row := none) ⟨hb10.os, hb10.tape, hb10.output, hb10.size, fun j hj _ => hb10.block j hj⟩ (by cases (Value.slice (some a3) L.length d8).ownBlock <;> simp)
                clear hb10 ho10 hx10 hc10 hm10
                unfold sideVal
                dsimp only [List.length_nil]
                obtain ⟨W11, hW11⟩ : ∃ W11, W11 = w10.alloc (.cells #[.slice A10 0 c10, .int .i64 ((tn : Int) + (k3 : Int) + 1), .int .i64 0] 24) := ⟨_, rfl⟩
                have HX11 : Hid (RB w w1.heap.size V.heap.size (some aA) c ss ((tn : Int) + (k3 : Int)) W11) := by rw [hW11]; exact HX10.out.alloc _
                have HO11 : Hid (W11.ownsRow W5.heap.size 26 4 (.slice (some a) 1 d6) 1 (frs l)) := by rw [hW11]; exact HO10.out.alloc _
                have HP11 : Hid (W11.ownsRow Wb.heap.size 26 4 (.slice (some a3) L.length d8) L.length (frs L)) := by rw [hW11]; exact HP10.out.alloc _
                have hbx11 : Bk W11 w10.heap.size 24 #[.slice A10 0 c10, .int .i64 ((tn : Int) + (k3 : Int) + 1), .int .i64 0] := by rw [hW11]; exact Bk.new _ _ _
                go_upto_region 31 with (fail)
                rw [← hW11]
                clear hW11
                obtain ⟨q0, q1, q2, z0, z1, z2, hg⟩ := HX11.out.s.three
                obtain ⟨p0, p1, p2, y0, y1, y2, hg2⟩ := hbx11.three
                obtain ⟨aA', hAA', _, ca⟩ := HX11.out.l.cell (j := tn + k3) (u := .string bs) (by simp [HBS.out])
                injection hAA' with hAA'
                subst hAA'
                have i1 : (0 : Int) ≤ (tn : Int) + (k3 : Int) := by omega
                have i2 : (tn : Int) + (k3 : Int) < (ss.length : Int) := by omega
                have i3 : ((tn : Int) + (k3 : Int)).toNat = tn + k3 := by omega
                obtain ⟨D11, d11, hr11⟩ := HX11.out.r
                obtain ⟨r0, r1, r2, x0, x1, x2, hg9⟩ := hr11.three
                go_wp2
                go_roundw
                case rel =>
                  refine ⟨k3 + 1, by omega, by go_num, ?_, ?_, ?_⟩
                  · have e : (tn : Int) + ((k3 + 1 : Nat) : Int) = (tn : Int) + (k3 : Int) + 1 := by omega
                    rw [e]
                    exact HX11.out.set
                  · exact ownsRow_setCell_below (ownsRow_setCell_below (ownsRow_setCell_below HP11.out (a := ⟨V.heap.size, 0, none⟩) hg8 _) (a := ⟨V.heap.size, 1, none⟩) hg8 _) (a := ⟨V.heap.size, 2, none⟩) hg8 _
                  · exact ownsRow_setCell_below (ownsRow_setCell_below (ownsRow_setCell_below HO11.out (a := ⟨V.heap.size, 0, none⟩) hg5 _) (a := ⟨V.heap.size, 1, none⟩) hg5 _) (a := ⟨V.heap.size, 2, none⟩) hg5 _
                case measure => simp [intOf]; omega
              · have i3 : ¬ (k3 : Int) < (L.length : Int) := by omega
                go_wp2
                go_roundw
                case rel =>
                  have e : (tn : Int) + (k3 : Int) = ((min ss.length (tn + 64) : Nat) : Int) := by have := HLN.out; omega
                  have h := HXr.out
                  rw [e] at h
                  exact ⟨_, _, _, _, _, _, _, _, _, _, _, _, _, ⟨1, Nat.le_refl _, rfl, h, HOr.out⟩, rfl, rfl, rfl, rfl, rfl, rfl, rfl, rfl, rfl, rfl, rfl, rfl, rfl⟩
                case measure => simp [intOf]
          · have hgoal : (if k2 = 0 then (tn : Int) else (min ss.length (tn + 64) : Nat)) = (min ss.length (tn + 64) : Nat) := by
              split <;> omega
            have hx7 := HX6.out
            rw [hgoal] at hx7
            obtain ⟨D7, d7, hr7⟩ := hx7.r
            obtain ⟨q0, q1, q2, z0, z1, z2, hg⟩ := hr7.three
            have hbb := hx7.b
            have HBB := Lib.hid hbb
            clear hx7 hbb hr7 hgoal
            have hmin : ((min ss.length (tn + 64) : Nat) : Int) = min (ss.length : Int) ((tn : Int) + 64) := by omega
            by_cases hc : ss.length ≤ tn + 64
            · have e9 : (min ss.length (tn + 64) : Nat) = ss.length := by omega
              rw [e9] at q1
              have e8 : (ss.length : Int) ≤ (tn : Int) + 64 := by omega
              clear hmin e9
              first | (exfalso; omega) | (go_wp2; all_goals (go_ret; exact ⟨rfl, HBB.out⟩))
            · have e9 : ((min ss.length (tn + 64) : Nat) : Int) = (tn : Int) + 64 := by omega
              rw [e9] at q1
              have e8 : ¬ (ss.length : Int) ≤ (tn : Int) + 64 := by omega
              clear hmin e9
              first | (exfalso; omega) | (go_wp2; all_goals (go_ret; exact ⟨rfl, HBB.out⟩))

end Go.Proofs.Ytkklghdmnkdofaa
