/- Walk of BookTurns. -/
import Derived.Test.YtiapbgbbeakoiaaOR2
import Derived.Test.YtiapbgbbeakoiaaOR4
import Derived.Test.YtiapbgbbeakoiaaOW
import Derived.Test.YtiapbgbbeakoiaaOG3
import Derived.Test.YtiapbgbbeakoiaaD1
namespace Go.Proofs.Ytiapbgbbeakoiaa.O
open Go.RowKit

theorem putL_len (l : List Lc) (x : Lc) : (putL l x).1.length ≤ l.length + 1 := by
  unfold putL
  repeat' split
  all_goals simp
  all_goals omega
theorem dropL_len (l : List Lc) (a i : Int) : (dropL l a i).1.length ≤ l.length := by
  unfold dropL
  split
  · simp; omega
  · simp
theorem cutL_len (l : List Lc) (a i q : Int) : (cutL l a i q).1.length ≤ l.length := by
  unfold cutL
  repeat' split
  all_goals simp [putQ]
  all_goals omega

set_option maxHeartbeats 16000000 in
set_option maxRecDepth 100000 in
theorem turns_walk (B : Option Addr) (m d : Nat) (l : List Lc) (o : Lc) (qty : Int) (w : World) (hm : m ≤ maxLen) (hmd : m ≤ d) (hq63 : qty ≤ 9223372036854775807) (hrl : Rd w w.heap.size 5 B m (lcs l)) :
    Calls Try.prog 7 #[.slice B m d, o.val, .int .i64 qty] w fun e w' => e = .returned (.bool true) ∧ Below w.heap.size w w' := by
  obtain ⟨xa, xd, xi, xq, xp⟩ := o
  obtain ⟨W, hW⟩ : ∃ W, W = w.alloc (.cells #[.int .i64 xa, .int .i64 xd, .int .i64 xi, .int .i64 xq, .int .i64 xp] 38) := ⟨_, rfl⟩
  obtain ⟨bx, hbx⟩ : ∃ bx, bx = w.heap.size := ⟨_, rfl⟩
  have HBX : Hid (Bk W bx 38 #[.int .i64 xa, .int .i64 xd, .int .i64 xi, .int .i64 xq, .int .i64 xp]) := by rw [hW, hbx]; exact Bk.new _ _ _
  have HWW : Hid (Below w.heap.size w W) := by rw [hW]; exact (Below.refl _ w).alloc (Nat.le_refl _) _
  have HRL : Hid (∀ V, Below W.heap.size W V → Rd V V.heap.size 5 B m (lcs l)) := fun V h => ((hrl.below HWW.out).mono HWW.out.size |>.below h).mono h.size
  have HBV : Hid (∀ V, Below W.heap.size W V → Bk V bx 38 #[.int .i64 xa, .int .i64 xd, .int .i64 xi, .int .i64 xq, .int .i64 xp]) := fun V h => HBX.out.below h HBX.out.lt
  have HFIN : Hid (∀ V, Below W.heap.size W V → Below w.heap.size w V) := fun V h => HWW.out.trans (h.mono HWW.out.size)
  have hlm : l.length = m := by have := hrl.1; rw [lcs_len] at this; omega
  obtain ⟨t1, ht1⟩ : ∃ t1, t1 = tidyB l := ⟨_, rfl⟩
  have HT1 : Hid (∀ V, Below W.heap.size W V → Calls Try.prog 16 #[.slice B m d] V fun e w' => e = .returned (.bool t1) ∧ Below V.heap.size V w') := fun V hV => by rw [ht1]; exact rrise_any B m d l V hm (HRL.out V hV)
  have HE1 := Lib.hid ht1
  have HMM := Lib.hid hm
  have HLM := Lib.hid hlm
  clear hrl ht1 hm hlm
  unfold Lc.val
  go_enter Try.func7, Try.ntmps7
  go_wp2_with fail
  rw [← hW, ← hbx]
  clear hW hbx
  refine (wakes_any W).mono ?_
  rintro e w1 ⟨rfl, hb1⟩
  have HB1 := Lib.hid hb1
  clear hb1
  go_wp2_with fail
  refine (HT1.out w1 HB1.out).mono ?_
  rintro e w2 ⟨rfl, hb2⟩
  have HB2 : Hid (Below W.heap.size W w2) := HB1.out.trans (hb2.mono HB1.out.size)
  clear hb2
  cases t1 with
  | false =>
    go_wp2
    go_ret
    exact ⟨rfl, HFIN.out _ HB2.out⟩
  | true => ?_
  by_cases h512 : 512 < m
  · have i1 : (512 : Int) < (m : Int) := by omega
    go_wp2
    go_ret
    exact ⟨rfl, HFIN.out _ HB2.out⟩
  have i1 : ¬ ((512 : Int) < (m : Int)) := by omega
  have hso := sorted_of l ((tidy_iff l).1 HE1.out.symm).1
  have hft := ((tidy_iff l).1 HE1.out.symm).2
  obtain ⟨⟨l1, e1⟩, hs1⟩ : ∃ rr, rr = putL l ⟨xa, xd, xi, xq, xp⟩ := ⟨_, rfl⟩
  obtain ⟨⟨l2, v2, e2⟩, hs2⟩ : ∃ rr, rr = cutL l xa xd qty := ⟨_, rfl⟩
  obtain ⟨⟨l3, e3⟩, hs3⟩ : ∃ rr, rr = dropL l xa xd := ⟨_, rfl⟩
  have hv : Lc.val ⟨xa, xd, xi, xq, xp⟩ = .agg #[.int .i64 xa, .int .i64 xd, .int .i64 xi, .int .i64 xq, .int .i64 xp] := rfl
  have HP1 : Hid (∀ V, Below W.heap.size W V → Calls Try.prog 17 #[.slice B m d, .agg #[.int .i64 xa, .int .i64 xd, .int .i64 xi, .int .i64 xq, .int .i64 xp]] V (LOut V (l1, e1))) := fun V hV => by rw [hs1, ← hv]; exact put_any B m d l _ V hso (by omega) (HRL.out V hV)
  have HP2 : Hid (∀ V, Below W.heap.size W V → Calls Try.prog 25 #[.slice B m d, .agg #[.int .i64 xa, .int .i64 xd, .int .i64 xi, .int .i64 xq, .int .i64 xp]] V (LOut V (l1, e1))) := fun V hV => by rw [hs1, ← hv]; exact rput_any B m d l _ V hso (by omega) (HRL.out V hV)
  have HC1 : Hid (∀ V, Below W.heap.size W V → Calls Try.prog 18 #[.slice B m d, .int .i64 xa, .int .i64 xd, .int .i64 qty] V (COut V (l2, v2, e2))) := fun V hV => by rw [hs2]; exact cut_any B m d l xa xd qty V HE1.out.symm (by omega) (HRL.out V hV)
  have HC2 : Hid (∀ V, Below W.heap.size W V → Calls Try.prog 30 #[.slice B m d, .int .i64 xa, .int .i64 xd, .int .i64 qty] V (COut V (l2, v2, e2))) := fun V hV => by rw [hs2]; exact rcut_any B m d l xa xd qty V HE1.out.symm (by omega) hmd hq63 (HRL.out V hV)
  have HD1 : Hid (∀ V, Below W.heap.size W V → Calls Try.prog 19 #[.slice B m d, .int .i64 xa, .int .i64 xd] V (LOut V (l3, e3))) := fun V hV => by rw [hs3]; exact drop_any B m d l xa xd V hso (by omega) (HRL.out V hV)
  have HD2 : Hid (∀ V, Below W.heap.size W V → Calls Try.prog 31 #[.slice B m d, .int .i64 xa, .int .i64 xd] V (LOut V (l3, e3))) := fun V hV => by rw [hs3]; exact rdrop_any B m d l xa xd V hso (by omega) hmd (HRL.out V hV)
  have hn1 : l1.length ≤ 1000 := by have h := putL_len l ⟨xa, xd, xi, xq, xp⟩; rw [← hs1, HLM.out] at h; dsimp only at h; omega
  have hn2 : l2.length ≤ 1000 := by have h := cutL_len l xa xd qty; rw [← hs2, HLM.out] at h; dsimp only at h; omega
  have hn3 : l3.length ≤ 1000 := by have h := dropL_len l xa xd; rw [← hs3, HLM.out] at h; dsimp only at h; omega
  obtain ⟨fv, hfv⟩ : ∃ fv, fv = findL l xa xd := ⟨_, rfl⟩
  have HF1 : Hid (∀ V, Below W.heap.size W V → Calls Try.prog 26 #[.slice B m d, .int .i64 xa, .int .i64 xd] V fun e w' => e = .returned (.int .i64 fv) ∧ Below V.heap.size V w') := fun V hV => by rw [hfv]; exact find_any B m d l xa xd V HMM.out (HRL.out V hV)
  have HF2 : Hid (∀ V, Below W.heap.size W V → Calls Try.prog 27 #[.slice B m d, .int .i64 xa, .int .i64 xd] V fun e w' => e = .returned (.int .i64 fv) ∧ Below V.heap.size V w') := fun V hV => by rw [hfv]; exact rfind_any B m d l xa xd V HMM.out (HRL.out V hV)
  obtain ⟨sv, hsv⟩ : ∃ sv, sv = sellS l xa xi l.length := ⟨_, rfl⟩
  have HS1 : Hid (∀ V, Below W.heap.size W V → Calls Try.prog 28 #[.slice B m d, .int .i64 xa, .int .i64 xi] V fun e w' => e = .returned (.int .i64 sv) ∧ Below V.heap.size V w') := fun V hV => by rw [hsv]; exact selling_any B m d l xa xi V hft (by omega) (HRL.out V hV)
  have HS2 : Hid (∀ V, Below W.heap.size W V → Calls Try.prog 29 #[.slice B m d, .int .i64 xa, .int .i64 xi] V fun e w' => e = .returned (.int .i64 sv) ∧ Below V.heap.size V w') := fun V hV => by rw [hsv]; exact rselling_any B m d l xa xi V hft (by omega) (HRL.out V hV)
  have HSAME : Hid (∀ (ls : List Lc) (V1 V2 V : World) A1 A2 c1 c2, ls.length ≤ 1000 → V1.ownsRow W.heap.size 38 5 (.slice A1 ls.length c1) ls.length (lcs ls) → Below V1.heap.size V1 V2 → V2.ownsRow W.heap.size 38 5 (.slice A2 ls.length c2) ls.length (lcs ls) → Below V2.heap.size V2 V → Calls Try.prog 20 #[.slice A1 ls.length c1, .slice A2 ls.length c2] V fun e w' => e = .returned (.bool true) ∧ ∃ m, w' = V.drewN m) := fun ls V1 V2 V A1 A2 c1 c2 hls h1 h12 h2 h2V => by
    refine same_any A1 A2 ls.length c1 c2 ls V rfl (by unfold maxLen; omega) ?_ ?_
    · exact (((Rd.of_own h1).below h12).mono h12.size |>.below h2V).mono h2V.size
    · exact ((Rd.of_own h2).below h2V).mono h2V.size
  clear hs1 hs2 hs3 hfv hsv hso hft hv
  obtain ⟨x0, x1, x2, x3, x4, z0, z1, z2, z3, z4, hxg⟩ := (HBV.out w2 HB2.out).five
  go_wp2_with fail
  refine (HP1.out w2 HB2.out).mono ?_
  rintro e w3 ⟨A1, c1, rfl, hc1, hm1, ho1, hb3⟩
  have HB3 : Hid (Below W.heap.size W w3) := HB2.out.trans (hb3.mono HB2.out.size)
  dsimp only at hc1 ho1
  have HO1 : Hid (w3.ownsRow W.heap.size 38 5 (.slice A1 l1.length c1) l1.length (lcs l1)) := own_mono ho1 HB2.out.size
  clear ho1 hb3 hc1 hm1 x0 x1 x2 x3 x4 z0 z1 z2 z3 z4 hxg
  obtain ⟨x0, x1, x2, x3, x4, z0, z1, z2, z3, z4, hxg⟩ := (HBV.out w3 HB3.out).five
  go_wp2_with fail
  refine (HP2.out w3 HB3.out).mono ?_
  rintro e w4 ⟨A2, c2, rfl, hc2, hm2, ho2, hb4⟩
  have HB34 := Lib.hid hb4
  have HB4 : Hid (Below W.heap.size W w4) := HB3.out.trans (hb4.mono HB3.out.size)
  dsimp only at hc2 ho2 ⊢
  have HO2 : Hid (w4.ownsRow W.heap.size 38 5 (.slice A2 l1.length c2) l1.length (lcs l1)) := own_mono ho2 HB3.out.size
  clear hb4 x0 x1 x2 x3 x4 z0 z1 z2 z3 z4 hxg ho2 hc2 hm2
  have HBW : Hid (∀ V, Below w4.heap.size w4 V → Below W.heap.size W V) := fun V h => HB4.out.trans (h.mono HB4.out.size)
  have HQ : Hid (∀ V, Below w4.heap.size w4 V → Calls Try.prog 20 #[.slice A1 l1.length c1, .slice A2 l1.length c2] V fun e w' => e = .returned (.bool true) ∧ ∃ m, w' = V.drewN m) := fun V hV => HSAME.out l1 w3 w4 V A1 A2 c1 c2 hn1 HO1.out HB34.out HO2.out hV
  have HS : Hid (∀ V, Below w4.heap.size w4 V → (fun V => Below w4.heap.size w4 V ∧ V.cell? ⟨bx, 0, none⟩ = some (.int .i64 xa) ∧ V.cell? ⟨bx, 1, none⟩ = some (.int .i64 xd) ∧ V.cell? ⟨bx, 2, none⟩ = some (.int .i64 xi)) V) := fun V hV => by
    have a := (HBV.out V (HBW.out V hV)).five
    exact ⟨hV, a.1, a.2.1, a.2.2.1⟩
  have HREFL : Hid (Below w4.heap.size w4 w4) := Below.refl _ _
  obtain ⟨x0, x1, x2, x3, x4, z0, z1, z2, z3, z4, hxg⟩ := (HBV.out w4 HB4.out).five
  go_upto_region 7 with (fail)
  go_region_held3 (fun V => Below w4.heap.size w4 V ∧ V.cell? ⟨bx, 0, none⟩ = some (.int .i64 xa) ∧ V.cell? ⟨bx, 1, none⟩ = some (.int .i64 xd) ∧ V.cell? ⟨bx, 2, none⟩ = some (.int .i64 xi))
    (first
      | with_reducible assumption
      | (refine HS.out _ ?_; first | with_reducible exact HW2.out | with_reducible exact HREFL.out | with_reducible exact (Below.refl _ _).drew | with_reducible exact below_drewN _ _ _))
    (first
      | (go_at_call 20; obtain ⟨hB, -⟩ := ‹Below w4.heap.size w4 _ ∧ _›; refine (HQ.out _ hB).mono ?_; rintro e wq ⟨rfl, q8, hq8⟩; have HW2 : Hid (Below w4.heap.size w4 wq) := (by rw [hq8]; exact ⟨hB.os, hB.tape, hB.output, hB.size, hB.block⟩); clear hB hq8; dsimp only)
      | (go_at_call 26; obtain ⟨hB, -⟩ := ‹Below w4.heap.size w4 _ ∧ _›; refine (HF1.out _ (HBW.out _ hB)).mono ?_; rintro e wq ⟨rfl, hbq⟩; have HW2 : Hid (Below w4.heap.size w4 wq) := hB.trans (hbq.mono hB.size); clear hB hbq; dsimp only)
      | (go_at_call 27; obtain ⟨hB, -⟩ := ‹Below w4.heap.size w4 _ ∧ _›; refine (HF2.out _ (HBW.out _ hB)).mono ?_; rintro e wq ⟨rfl, hbq⟩; have HW2 : Hid (Below w4.heap.size w4 wq) := hB.trans (hbq.mono hB.size); clear hB hbq; dsimp only)
      | (go_at_call 28; obtain ⟨hB, -⟩ := ‹Below w4.heap.size w4 _ ∧ _›; refine (HS1.out _ (HBW.out _ hB)).mono ?_; rintro e wq ⟨rfl, hbq⟩; have HW2 : Hid (Below w4.heap.size w4 wq) := hB.trans (hbq.mono hB.size); clear hB hbq; dsimp only)
      | (go_at_call 29; obtain ⟨hB, -⟩ := ‹Below w4.heap.size w4 _ ∧ _›; refine (HS2.out _ (HBW.out _ hB)).mono ?_; rintro e wq ⟨rfl, hbq⟩; have HW2 : Hid (Below w4.heap.size w4 wq) := hB.trans (hbq.mono hB.size); clear hB hbq; dsimp only))
  all_goals
    obtain ⟨V5, hV5⟩ : ∃ V5, V5 = wq := ⟨_, rfl⟩
    have HB5 : Hid (Below W.heap.size W V5) := by rw [hV5]; exact HBW.out _ HW2.out
    rw [← hV5]
    clear hV5 HW2 x0 x1 x2 x3 x4 z0 z1 z2 z3 z4 hxg
    obtain ⟨x0, x1, x2, x3, x4, z0, z1, z2, z3, z4, hxg⟩ := (HBV.out V5 HB5.out).five
    go_wp2_with fail
    refine (HC1.out V5 HB5.out).mono ?_
    rintro e w6 ⟨A3, c3, rfl, hc3, hm3, ho3, hb6⟩
    have HB6 : Hid (Below W.heap.size W w6) := HB5.out.trans (hb6.mono HB5.out.size)
    dsimp only at hc3 ho3 ⊢
    have HO3 : Hid (w6.ownsRow W.heap.size 38 5 (.slice A3 l2.length c3) l2.length (lcs l2)) := own_mono ho3 HB5.out.size
    clear ho3 hb6 hc3 hm3 x0 x1 x2 x3 x4 z0 z1 z2 z3 z4 hxg
    obtain ⟨x0, x1, x2, x3, x4, z0, z1, z2, z3, z4, hxg⟩ := (HBV.out w6 HB6.out).five
    go_wp2_with fail
    refine (HC2.out w6 HB6.out).mono ?_
    rintro e w7 ⟨A4, c4, rfl, hc4, hm4, ho4, hb7⟩
    have HB67 := Lib.hid hb7
    have HB7 : Hid (Below W.heap.size W w7) := HB6.out.trans (hb7.mono HB6.out.size)
    dsimp only at hc4 ho4 ⊢
    have HO4 : Hid (w7.ownsRow W.heap.size 38 5 (.slice A4 l2.length c4) l2.length (lcs l2)) := own_mono ho4 HB6.out.size
    clear ho4 hb7 hc4 hm4 x0 x1 x2 x3 x4 z0 z1 z2 z3 z4 hxg
    go_wp2_with fail
    refine (HSAME.out l2 w6 w7 w7 A3 A4 c3 c4 hn2 HO3.out HB67.out HO4.out (Below.refl _ _)).mono ?_
    rintro e w8 ⟨rfl, q8, hq8⟩
    have HB8 : Hid (Below W.heap.size W w8) := by rw [hq8]; have h := HB7.out; exact ⟨h.os, h.tape, h.output, h.size, h.block⟩
    clear hq8
    obtain ⟨x0, x1, x2, x3, x4, z0, z1, z2, z3, z4, hxg⟩ := (HBV.out w8 HB8.out).five
    go_wp2_with fail
    refine (HD1.out w8 HB8.out).mono ?_
    rintro e w9 ⟨A5, c5, rfl, hc5, hm5, ho5, hb9⟩
    have HB9 : Hid (Below W.heap.size W w9) := HB8.out.trans (hb9.mono HB8.out.size)
    dsimp only at hc5 ho5 ⊢
    have HO5 : Hid (w9.ownsRow W.heap.size 38 5 (.slice A5 l3.length c5) l3.length (lcs l3)) := own_mono ho5 HB8.out.size
    clear ho5 hb9 hc5 hm5 x0 x1 x2 x3 x4 z0 z1 z2 z3 z4 hxg
    obtain ⟨x0, x1, x2, x3, x4, z0, z1, z2, z3, z4, hxg⟩ := (HBV.out w9 HB9.out).five
    go_wp2_with fail
    refine (HD2.out w9 HB9.out).mono ?_
    rintro e w10 ⟨A6, c6, rfl, hc6, hm6, ho6, hb10⟩
    have HB910 := Lib.hid hb10
    have HB10 : Hid (Below W.heap.size W w10) := HB9.out.trans (hb10.mono HB9.out.size)
    dsimp only at hc6 ho6 ⊢
    have HO6 : Hid (w10.ownsRow W.heap.size 38 5 (.slice A6 l3.length c6) l3.length (lcs l3)) := own_mono ho6 HB9.out.size
    clear ho6 hb10 hc6 hm6 x0 x1 x2 x3 x4 z0 z1 z2 z3 z4 hxg
    go_wp2_with fail
    refine (HSAME.out l3 w9 w10 w10 A5 A6 c5 c6 hn3 HO5.out HB910.out HO6.out (Below.refl _ _)).mono ?_
    rintro e w11 ⟨rfl, q11, hq11⟩
    have HB11 : Hid (Below W.heap.size W w11) := by rw [hq11]; have h := HB10.out; exact ⟨h.os, h.tape, h.output, h.size, h.block⟩
    clear hq11
    go_wp2
    go_ret
    exact ⟨by simp, HFIN.out _ HB11.out⟩

end Go.Proofs.Ytiapbgbbeakoiaa.O
