/- Walk of LocateTurns. -/
import Derived.Test.YtboehkcpgmpjjaaE3
import Derived.Test.YtboehkcpgmpjjaaD1
import Derived.SizedLaws
namespace Go.Proofs.Ytboehkcpgmpjjaa
open Go.RowKit

theorem below_drewN (B : Nat) (w : World) (j : Nat) : Below B w (w.drewN j) := ⟨rfl, rfl, rfl, Nat.le_refl _, fun _ _ => rfl⟩

set_option maxHeartbeats 8000000 in
set_option maxRecDepth 100000 in
theorem turns_walk (A B : Option Addr) (n c m d : Nat) (av : List Int) (l : List Lc) (xa xi xq : Int) (w : World) (hn : n * 8 ≤ 140737488355328) (hm : m ≤ maxLen) (hra : Rd w w.heap.size 1 A n (ints av)) (hrl : Rd w w.heap.size 3 B m (lcs l)) :
    Calls Try.prog 3 #[.slice A n c, .slice B m d, .agg #[.int .i64 xa, .int .i64 xi, .int .i64 xq]] w fun e w' => e = .returned (.bool true) ∧ Below w.heap.size w w' := by
  obtain ⟨W, hW⟩ : ∃ W, W = w.alloc (.cells #[.int .i64 xa, .int .i64 xi, .int .i64 xq] 25) := ⟨_, rfl⟩
  obtain ⟨bx, hbx⟩ : ∃ bx, bx = w.heap.size := ⟨_, rfl⟩
  have HBX : Hid (Bk W bx 25 #[.int .i64 xa, .int .i64 xi, .int .i64 xq]) := by rw [hW, hbx]; exact Bk.new _ _ _
  have HWW : Hid (Below w.heap.size w W) := by rw [hW]; exact (Below.refl _ w).alloc (Nat.le_refl _) _
  have hll : l.length = m := by have := hrl.1; rw [lcs_len] at this; omega
  have hal : av.length = n := by have := hra.1; rw [ints_len] at this; omega
  have HLL := Lib.hid hll
  have HAL := Lib.hid hal
  have HRA : Hid (∀ V, Below W.heap.size W V → Rd V V.heap.size 1 A n (ints av)) := fun V h => ((hra.below HWW.out).mono HWW.out.size |>.below h).mono h.size
  have HRL : Hid (∀ V, Below W.heap.size W V → Rd V V.heap.size 3 B m (lcs l)) := fun V h => ((hrl.below HWW.out).mono HWW.out.size |>.below h).mono h.size
  have HBV : Hid (∀ V, Below W.heap.size W V → Bk V bx 25 #[.int .i64 xa, .int .i64 xi, .int .i64 xq]) := fun V h => HBX.out.below h HBX.out.lt
  have HFIN : Hid (∀ V, Below W.heap.size W V → Below w.heap.size w V) := fun V h => HWW.out.trans (h.mono HWW.out.size)
  obtain ⟨rs, hrs⟩ : ∃ rs, rs = supplyS av xi xq := ⟨_, rfl⟩
  obtain ⟨rr, hrr⟩ : ∃ rr, rr = reserveS av l xa xi xq := ⟨_, rfl⟩
  obtain ⟨hd, hhd⟩ : ∃ hd, hd = heldL l xa xi := ⟨_, rfl⟩
  have HS1 : Hid (av.all fitsQ = true → ∀ V, Below W.heap.size W V → Calls Try.prog 10 #[.slice A n c, .int .i64 xi, .int .i64 xq] V (SupOut V rs)) := fun h V hV => by rw [hrs]; exact supply_any A n c av xi xq V h hn (HRA.out V hV)
  have HS2 : Hid (av.all fitsQ = true → ∀ V, Below W.heap.size W V → Calls Try.prog 11 #[.slice A n c, .int .i64 xi, .int .i64 xq] V (SupOut V rs)) := fun h V hV => by rw [hrs]; exact rsupply_any A n c av xi xq V h hn (HRA.out V hV)
  have HH1 : Hid (∀ V, Below W.heap.size W V → Calls Try.prog 13 #[.slice B m d, .int .i64 xa, .int .i64 xi] V fun e w' => e = .returned (.int .i64 hd) ∧ Below V.heap.size V w') := fun V hV => by rw [hhd]; exact held_any B m d l xa xi V hm (HRL.out V hV)
  have HH2 : Hid (∀ V, Below W.heap.size W V → Calls Try.prog 14 #[.slice B m d, .int .i64 xa, .int .i64 xi] V fun e w' => e = .returned (.int .i64 hd) ∧ Below V.heap.size V w') := fun V hV => by rw [hhd]; exact rheld_any B m d l xa xi V hm (HRL.out V hV)
  have HR1 : Hid (av.all fitsQ = true → upto (tidyAt l) l.length = true → m ≤ 1000000 → ∀ V, Below W.heap.size W V → Calls Try.prog 15 #[.slice A n c, .slice B m d, .int .i64 xa, .int .i64 xi, .int .i64 xq] V (ResOut V rr)) := fun h1 h2 h3 V hV => by rw [hrr]; exact reserve_any A B n c m d av l xa xi xq V h1 h2 hn h3 (HRA.out V hV) (HRL.out V hV)
  have HR2 : Hid (av.all fitsQ = true → upto (tidyAt l) l.length = true → m ≤ 1000000 → ∀ V, Below W.heap.size W V → Calls Try.prog 16 #[.slice A n c, .slice B m d, .int .i64 xa, .int .i64 xi, .int .i64 xq] V (ResOut V rr)) := fun h1 h2 h3 V hV => by rw [hrr]; exact rreserve_any A B n c m d av l xa xi xq V h1 h2 hn h3 (HRA.out V hV) (HRL.out V hV)
  have HT : Hid (∀ V, Below W.heap.size W V → Calls Try.prog 9 #[.slice A n c, .slice B m d] V fun e w' => e = .returned (.bool (tidyB av l)) ∧ Below V.heap.size V w') := fun V hV => tidy_any A B n c m d av l V (by unfold maxLen; omega) hm (HRA.out V hV) (HRL.out V hV)
  clear hrs hrr hhd hll hal hra hrl
  obtain ⟨⟨sl, se⟩, hrs⟩ : ∃ s, s = rs := ⟨_, rfl⟩
  obtain ⟨⟨ral, rll, re⟩, hrr⟩ : ∃ s, s = rr := ⟨_, rfl⟩
  rw [← hrs] at HS1 HS2
  rw [← hrr] at HR1 HR2
  clear hrs hrr rs rr
  unfold maxLen at hm
  go_enter Try.func3, Try.ntmps3
  go_wp2_with fail
  rw [← hW, ← hbx]
  clear hW hbx
  refine (wakes_any W).mono ?_
  rintro e w1 ⟨rfl, hb1⟩
  have HB1 := Lib.hid hb1
  clear hb1
  go_wp2_with fail
  refine (HT.out w1 HB1.out).mono ?_
  rintro e w2 ⟨rfl, hb2⟩
  have HB2 : Hid (Below W.heap.size W w2) := HB1.out.trans (hb2.mono HB1.out.size)
  clear hb2
  by_cases ht : tidyB av l = true
  case neg =>
    have ht' : tidyB av l = false := by simpa using ht
    rw [ht']
    go_wp2
    go_ret
    exact ⟨rfl, HFIN.out _ HB2.out⟩
  rw [ht]
  by_cases h512 : 512 < m
  · have i1 : (512 : Int) < (m : Int) := by omega
    go_wp2
    go_ret
    exact ⟨rfl, HFIN.out _ HB2.out⟩
  have i1 : ¬ ((512 : Int) < (m : Int)) := by omega
  have htt := ht
  unfold tidyB at htt
  rw [Bool.and_eq_true] at htt
  have hm6 : m ≤ 1000000 := by omega
  have HTT := Lib.hid htt
  clear ht htt
  obtain ⟨x0, x1, x2, z0, z1, z2, hxg⟩ := (HBV.out w2 HB2.out).three
  go_wp2_with fail
  refine (HS1.out HTT.out.1 w2 HB2.out).mono ?_
  rintro e w3 ⟨A1, c1, rfl, hc1, hm1, ho1, hb3⟩
  dsimp only at hc1 ho1
  have HB3 : Hid (Below W.heap.size W w3) := HB2.out.trans (hb3.mono HB2.out.size)
  have HO1 := Lib.hid ho1
  clear x0 x1 x2 z0 z1 z2 hxg ho1 hb3
  obtain ⟨x0, x1, x2, z0, z1, z2, hxg⟩ := (HBV.out w3 HB3.out).three
  go_wp2_with fail
  refine (HS2.out HTT.out.1 w3 HB3.out).mono ?_
  rintro e w4 ⟨A2, c2, rfl, hc2, hm2, ho2, hb4⟩
  dsimp only at hc2 ho2
  have HB4 : Hid (Below W.heap.size W w4) := HB3.out.trans (hb4.mono HB3.out.size)
  have hra1 : Rd w4 w4.heap.size 1 A1 sl.length (ints sl) := ((Rd.of_own HO1.out).below hb4).mono hb4.size
  have hra2 : Rd w4 w4.heap.size 1 A2 sl.length (ints sl) := Rd.of_own ho2
  have HSA : Hid (∀ V, Below w4.heap.size w4 V → Calls Try.prog 12 #[.slice A1 sl.length c1, .slice A2 sl.length c2] V fun e w' => e = .returned (.bool true) ∧ ∃ m, w' = V.drewN m) := fun V hV => sameInts_any A1 A2 sl.length c1 c2 sl V rfl (by omega) ((hra1.below hV).mono hV.size) ((hra2.below hV).mono hV.size)
  clear x0 x1 x2 z0 z1 z2 hxg ho2 hb4 hra1 hra2 HO1
  have HS : Hid (∀ V, Below w4.heap.size w4 V → (fun V => Below w4.heap.size w4 V ∧ V.cell? ⟨bx, 0, none⟩ = some (.int .i64 xa) ∧ V.cell? ⟨bx, 1, none⟩ = some (.int .i64 xi) ∧ V.cell? ⟨bx, 2, none⟩ = some (.int .i64 xq)) V) := fun V hV => by
    have a := (HBV.out V (HB4.out.trans (hV.mono HB4.out.size))).three
    exact ⟨hV, a.1, a.2.1, a.2.2.1⟩
  have hW4 : W.heap.size ≤ w4.heap.size := HB4.out.size
  go_upto_region 7 with (fail)
  go_region_held (fun V => Below w4.heap.size w4 V ∧ V.cell? ⟨bx, 0, none⟩ = some (.int .i64 xa) ∧ V.cell? ⟨bx, 1, none⟩ = some (.int .i64 xi) ∧ V.cell? ⟨bx, 2, none⟩ = some (.int .i64 xq))
    (first
      | with_reducible assumption
      | (refine HS.out _ ?_; first | with_reducible exact HW2.out | with_reducible exact (Below.refl _ _).drew | with_reducible exact below_drewN _ _ _))
    (first
      | (go_at_call 12; obtain ⟨hB, -⟩ := ‹Below w4.heap.size w4 _ ∧ _›; refine (HSA.out _ hB).mono ?_; rintro e wq ⟨rfl, q, rfl⟩; have HW2 : Hid (Below w4.heap.size w4 (World.drewN _ q)) := ⟨hB.os, hB.tape, hB.output, hB.size, hB.block⟩; clear hB)
      | (go_at_call 13; obtain ⟨hB, -⟩ := ‹Below w4.heap.size w4 _ ∧ _›; refine (HH1.out _ (HB4.out.trans (hB.mono hW4))).mono ?_; rintro e wq ⟨rfl, hbq⟩; have HW2 : Hid (Below w4.heap.size w4 wq) := hB.trans (hbq.mono hB.size); clear hB hbq)
      | (go_at_call 14; obtain ⟨hB, -⟩ := ‹Below w4.heap.size w4 _ ∧ _›; refine (HH2.out _ (HB4.out.trans (hB.mono hW4))).mono ?_; rintro e wq ⟨rfl, hbq⟩; have HW2 : Hid (Below w4.heap.size w4 wq) := hB.trans (hbq.mono hB.size); clear hB hbq))
  all_goals
    obtain ⟨V5, hV5⟩ : ∃ V5, V5 = wq := ⟨_, rfl⟩
    have HB5 : Hid (Below W.heap.size W V5) := by rw [hV5]; exact HB4.out.trans (HW2.out.mono hW4)
    rw [← hV5]
    clear hV5
    have hc5 := (HBV.out V5 HB5.out).three
    obtain ⟨x0, x1, x2, z0, z1, z2, hxg⟩ := hc5
    go_wp2_with fail
    refine (HR1.out HTT.out.1 HTT.out.2 hm6 V5 HB5.out).mono ?_
    rintro e w6 ⟨A3, c3, B3, d3, rfl, hc3, hm3, hd3, hn3, ho3, hp3, hb6⟩
    dsimp only at hc3 hd3 ho3 hp3
    have HB6 : Hid (Below W.heap.size W w6) := HB5.out.trans (hb6.mono HB5.out.size)
    have HO3 := Lib.hid ho3
    have HP3 := Lib.hid hp3
    clear x0 x1 x2 z0 z1 z2 hxg ho3 hp3 hb6
    obtain ⟨x0, x1, x2, z0, z1, z2, hxg⟩ := (HBV.out w6 HB6.out).three
    go_wp2_with fail
    refine (HR2.out HTT.out.1 HTT.out.2 hm6 w6 HB6.out).mono ?_
    rintro e w7 ⟨A4, c4, B4, d4, rfl, hc4, hm4, hd4, hn4, ho4, hp4, hb7⟩
    dsimp only at hc4 hd4 ho4 hp4
    have HB7 : Hid (Below W.heap.size W w7) := HB6.out.trans (hb7.mono HB6.out.size)
    have r1 : Rd w7 w7.heap.size 1 A3 ral.length (ints ral) := ((Rd.of_own HO3.out).below hb7).mono hb7.size
    have r2 : Rd w7 w7.heap.size 1 A4 ral.length (ints ral) := Rd.of_own ho4
    have r3 : Rd w7 w7.heap.size 3 B3 rll.length (lcs rll) := ((Rd.of_own HP3.out).below hb7).mono hb7.size
    have r4 : Rd w7 w7.heap.size 3 B4 rll.length (lcs rll) := Rd.of_own hp4
    have R3 := Lib.hid r3
    have R4 := Lib.hid r4
    have hsame := sameInts_any A3 A4 ral.length c3 c4 ral w7 rfl (by omega) r1 r2
    have HSAME := Lib.hid hsame
    clear x0 x1 x2 z0 z1 z2 hxg ho4 hp4 hb7 r1 r2 r3 r4 hsame
    go_wp2_with fail
    refine HSAME.out.mono ?_
    rintro e w8 ⟨rfl, q8, rfl⟩
    have hsame2 := same_any B3 B4 rll.length d3 d4 rll (w7.drewN q8) rfl (by omega) R3.out R4.out
    have HSAME2 := Lib.hid hsame2
    clear hsame2
    go_wp2_with fail
    refine HSAME2.out.mono ?_
    rintro e w9 ⟨rfl, q9, rfl⟩
    go_wp2
    go_ret
    refine ⟨rfl, HFIN.out _ ?_⟩
    have h7 := HB7.out
    exact ⟨h7.os, h7.tape, h7.output, h7.size, h7.block⟩

end Go.Proofs.Ytboehkcpgmpjjaa
