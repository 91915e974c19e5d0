/- Walk of BookAdds. -/
import Derived.Test.YtiapbgbbeakoiaaPR2
import Derived.Test.YtiapbgbbeakoiaaPG3
import Derived.Test.YtiapbgbbeakoiaaD1
namespace Go.Proofs.Ytiapbgbbeakoiaa.P
open Go.RowKit

set_option maxHeartbeats 16000000 in
set_option maxRecDepth 100000 in
theorem adds_walk (B : Option Addr) (m d : Nat) (l : List Lc) (xa xi xq : Int) (w : World) (hm : m ≤ maxLen) (hrl : Rd w w.heap.size 3 B m (lcs l)) :
    Calls Try.prog 3 #[.slice B m d, .agg #[.int .i64 xa, .int .i64 xi], .int .i64 xq] w fun e w' => e = .returned (.bool true) ∧ Below w.heap.size w w' := by
  obtain ⟨W, hW⟩ : ∃ W, W = w.alloc (.cells #[.int .i64 xa, .int .i64 xi] 23) := ⟨_, rfl⟩
  obtain ⟨bx, hbx⟩ : ∃ bx, bx = w.heap.size := ⟨_, rfl⟩
  have HBX : Hid (Bk W bx 23 #[.int .i64 xa, .int .i64 xi]) := by rw [hW, hbx]; exact Bk.new _ _ _
  have HWW : Hid (Below w.heap.size w W) := by rw [hW]; exact (Below.refl _ w).alloc (Nat.le_refl _) _
  have HRL : Hid (∀ V, Below W.heap.size W V → Rd V V.heap.size 3 B m (lcs l)) := fun V h => ((hrl.below HWW.out).mono HWW.out.size |>.below h).mono h.size
  have HBV : Hid (∀ V, Below W.heap.size W V → Bk V bx 23 #[.int .i64 xa, .int .i64 xi]) := fun V h => HBX.out.below h HBX.out.lt
  have HFIN : Hid (∀ V, Below W.heap.size W V → Below w.heap.size w V) := fun V h => HWW.out.trans (h.mono HWW.out.size)
  obtain ⟨t1, ht1⟩ : ∃ t1, t1 = tidyB l := ⟨_, rfl⟩
  have HT1 : Hid (∀ V, Below W.heap.size W V → Calls Try.prog 10 #[.slice B m d] V fun e w' => e = .returned (.bool t1) ∧ Below V.heap.size V w') := fun V hV => by rw [ht1]; exact rrise_any B m d l V hm (HRL.out V hV)
  have HE1 := Lib.hid ht1
  have HMM := Lib.hid hm
  clear hrl ht1 hm
  go_enter Try.func3, Try.ntmps3
  go_wp2_with fail
  rw [← hW, ← hbx]
  clear hW hbx
  refine (wakes_any W).mono ?_
  rintro e w1 ⟨rfl, hb1⟩
  have HB1 := Lib.hid hb1
  clear hb1
  go_wp2_with fail
  refine (HT1.out w1 HB1.out).mono ?_
  rintro e w2 ⟨rfl, hb2⟩
  have HB2 : Hid (Below W.heap.size W w2) := HB1.out.trans (hb2.mono HB1.out.size)
  clear hb2
  cases t1 with
  | false =>
    go_wp2
    go_ret
    exact ⟨rfl, HFIN.out _ HB2.out⟩
  | true => ?_
  by_cases h512 : 512 < m
  · have i1 : (512 : Int) < (m : Int) := by omega
    go_wp2
    go_ret
    exact ⟨rfl, HFIN.out _ HB2.out⟩
  have i1 : ¬ ((512 : Int) < (m : Int)) := by omega
  obtain ⟨⟨l', er⟩, hs⟩ : ∃ rr, rr = addL l xa xi xq := ⟨_, rfl⟩
  have HA1 : Hid (∀ V, Below W.heap.size W V → Calls Try.prog 11 #[.slice B m d, .int .i64 xa, .int .i64 xi, .int .i64 xq] V (LOut V (l', er))) := fun V hV => by rw [hs]; exact add_any B m d l xa xi xq V HE1.out.symm (by omega) (HRL.out V hV)
  have HA2 : Hid (∀ V, Below W.heap.size W V → Calls Try.prog 12 #[.slice B m d, .int .i64 xa, .int .i64 xi, .int .i64 xq] V (LOut V (l', er))) := fun V hV => by rw [hs]; exact radd_any B m d l xa xi xq V HE1.out.symm (by omega) (HRL.out V hV)
  have hln : l'.length ≤ 1000 := by
    have hlm : l.length = m := by have := (HRL.out W (Below.refl _ _)).1; rw [lcs_len] at this; omega
    have h : (addL l xa xi xq).1.length ≤ l.length + 1 := by
      unfold addL
      repeat' split
      all_goals simp [putQ]
      all_goals omega
    rw [← hs] at h
    dsimp only at h
    omega
  obtain ⟨x0, x1, z0, z1, hxg⟩ := (HBV.out w2 HB2.out).two
  clear hs
  go_wp2_with fail
  refine (HA1.out w2 HB2.out).mono ?_
  rintro e w3 ⟨A1, c1, rfl, hc1, hm1, ho1, hb3⟩
  have HB3 : Hid (Below W.heap.size W w3) := HB2.out.trans (hb3.mono HB2.out.size)
  clear hb3 x0 x1 z0 z1 hxg
  dsimp only at hc1 ho1
  have HC := Lib.hid ho1
  clear ho1
  obtain ⟨x0, x1, z0, z1, hxg⟩ := (HBV.out w3 HB3.out).two
  go_wp2_with fail
  refine (HA2.out w3 HB3.out).mono ?_
  rintro e w4 ⟨A2, c2, rfl, hc2, hm2, ho2, hb4⟩
  have HB4 : Hid (Below W.heap.size W w4) := HB3.out.trans (hb4.mono HB3.out.size)
  dsimp only at hc2 ho2 ⊢
  have HB34 := Lib.hid hb4
  have HD := Lib.hid ho2
  clear hb4 x0 x1 z0 z1 hxg ho2 hc1 hc2 hm1 hm2
  have HBW : Hid (∀ V, Below w4.heap.size w4 V → Below W.heap.size W V) := fun V h => HB4.out.trans (h.mono HB4.out.size)
  have HSAME : Hid (∀ V, Below w4.heap.size w4 V → Calls Try.prog 13 #[.slice A1 l'.length c1, .slice A2 l'.length c2] V fun e w' => e = .returned (.bool true) ∧ ∃ m, w' = V.drewN m) := fun V hV => by
    refine same_any A1 A2 l'.length c1 c2 l' V rfl (by unfold maxLen; omega) ?_ ?_
    · exact (((Rd.of_own HC.out).below HB34.out).mono HB34.out.size |>.below hV).mono hV.size
    · exact ((Rd.of_own HD.out).below hV).mono hV.size
  obtain ⟨qv, hqv⟩ : ∃ qv, qv = qtyL l xa xi := ⟨_, rfl⟩
  have HQ1 : Hid (∀ V, Below W.heap.size W V → Calls Try.prog 14 #[.slice B m d, .int .i64 xa, .int .i64 xi] V fun e w' => e = .returned (.int .i64 qv) ∧ Below V.heap.size V w') := fun V hV => by rw [hqv]; exact qty_any B m d l xa xi V HMM.out (HRL.out V hV)
  have HQ2 : Hid (∀ V, Below W.heap.size W V → Calls Try.prog 15 #[.slice B m d, .int .i64 xa, .int .i64 xi] V fun e w' => e = .returned (.int .i64 qv) ∧ Below V.heap.size V w') := fun V hV => by rw [hqv]; exact rqty_any B m d l xa xi V HMM.out (HRL.out V hV)
  have HS : Hid (∀ V, Below w4.heap.size w4 V → (fun V => Below w4.heap.size w4 V ∧ V.cell? ⟨bx, 0, none⟩ = some (.int .i64 xa) ∧ V.cell? ⟨bx, 1, none⟩ = some (.int .i64 xi)) V) := fun V hV => by
    have a := (HBV.out V (HBW.out V hV)).two
    exact ⟨hV, a.1, a.2.1⟩
  have HREFL : Hid (Below w4.heap.size w4 w4) := Below.refl _ _
  clear hqv
  obtain ⟨x0, x1, z0, z1, hxg⟩ := (HBV.out w4 HB4.out).two
  go_upto_region 7 with (fail)
  go_region_held3 (fun V => Below w4.heap.size w4 V ∧ V.cell? ⟨bx, 0, none⟩ = some (.int .i64 xa) ∧ V.cell? ⟨bx, 1, none⟩ = some (.int .i64 xi))
    (first
      | with_reducible assumption
      | (refine HS.out _ ?_; first | with_reducible exact HW2.out | with_reducible exact HREFL.out | with_reducible exact (Below.refl _ _).drew | with_reducible exact below_drewN _ _ _))
    (first
      | (go_at_call 13; obtain ⟨hB, -⟩ := ‹Below w4.heap.size w4 _ ∧ _›; refine (HSAME.out _ hB).mono ?_; rintro e wq ⟨rfl, q8, hq8⟩; have HW2 : Hid (Below w4.heap.size w4 wq) := (by rw [hq8]; exact ⟨hB.os, hB.tape, hB.output, hB.size, hB.block⟩); clear hB hq8; dsimp only)
      | (go_at_call 14; obtain ⟨hB, -⟩ := ‹Below w4.heap.size w4 _ ∧ _›; refine (HQ1.out _ (HBW.out _ hB)).mono ?_; rintro e wq ⟨rfl, hbq⟩; have HW2 : Hid (Below w4.heap.size w4 wq) := hB.trans (hbq.mono hB.size); clear hB hbq; dsimp only)
      | (go_at_call 15; obtain ⟨hB, -⟩ := ‹Below w4.heap.size w4 _ ∧ _›; refine (HQ2.out _ (HBW.out _ hB)).mono ?_; rintro e wq ⟨rfl, hbq⟩; have HW2 : Hid (Below w4.heap.size w4 wq) := hB.trans (hbq.mono hB.size); clear hB hbq; dsimp only))
  all_goals
    go_wp2
    go_ret
    exact ⟨rfl, HFIN.out _ (HBW.out _ HW2.out)⟩

end Go.Proofs.Ytiapbgbbeakoiaa.P
