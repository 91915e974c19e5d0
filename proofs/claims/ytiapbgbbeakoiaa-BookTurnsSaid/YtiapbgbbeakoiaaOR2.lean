/- Walk: the document's Put. By gen_or2.py. -/
import Derived.Test.YtiapbgbbeakoiaaOQ
namespace Go.Proofs.Ytiapbgbbeakoiaa.O
open Go.RowKit

set_option maxHeartbeats 16000000 in
set_option maxRecDepth 100000 in
theorem rput_any (B : Option Addr) (m d : Nat) (l : List Lc) (o : Lc) (w : World) (hso : Sorted l) (hm : m ≤ 1000000) (hrl : Rd w w.heap.size 5 B m (lcs l)) :
    Calls Try.prog 25 #[.slice B m d, o.val] w (LOut w (putL l o)) := by
  obtain ⟨xa, xd, xi, xq, xp⟩ := o
  have hlm : l.length = m := by have := hrl.1; rw [lcs_len] at this; omega
  obtain ⟨r, hr⟩ : ∃ r, r = putL l ⟨xa, xd, xi, xq, xp⟩ := ⟨_, rfl⟩
  rw [← hr]
  unfold putL at hr
  obtain ⟨hpe, hte⟩ := place_same (l := l) (x := ⟨xa, xd, xi, xq, xp⟩) (y := ⟨xa, xd, 0, 0, 0⟩) rfl rfl
  rw [hpe, hte] at hr
  have hfs := findL_sorted hso xa xd
  obtain ⟨p, hp⟩ : ∃ p, p = place l ⟨xa, xd, 0, 0, 0⟩ := ⟨_, rfl⟩
  obtain ⟨th, hth⟩ : ∃ th, th = thereB l ⟨xa, xd, 0, 0, 0⟩ := ⟨_, rfl⟩
  rw [← hp, ← hth] at hr hfs
  have hkey : ∀ j, j < m → ((l.getD j default).is xa xd = true ↔ (j = p ∧ th = true)) := fun j hj => by
    have := hso.key ⟨xa, xd, 0, 0, 0⟩ (j := j) (by omega)
    rwa [← hp, ← hth] at this
  have hless : ∀ j, j < p → (l.getD j default).acct < xa ∨ ((l.getD j default).acct = xa ∧ (l.getD j default).id < xd) := fun j hj => hso.less xa xd (by rw [← hp]; exact hj)
  have hmore : ∀ j, j < m → p ≤ j → (l.getD j default).is xa xd = false → xa < (l.getD j default).acct ∨ ((l.getD j default).acct = xa ∧ xd < (l.getD j default).id) := fun j hj hpj hn => hso.more xa xd (by omega) (by rw [← hp]; exact hpj) hn
  have hpm : p ≤ m := by have := (hso.place ⟨xa, xd, 0, 0, 0⟩).1; rw [← hp] at this; omega
  obtain ⟨W, hW⟩ : ∃ W, W = w.alloc (.cells #[.int .i64 xa, .int .i64 xd, .int .i64 xi, .int .i64 xq, .int .i64 xp] 38) := ⟨_, rfl⟩
  obtain ⟨bx, hbx⟩ : ∃ bx, bx = w.heap.size := ⟨_, rfl⟩
  have HBX : Hid (Bk W bx 38 #[.int .i64 xa, .int .i64 xd, .int .i64 xi, .int .i64 xq, .int .i64 xp]) := by rw [hW, hbx]; exact Bk.new _ _ _
  have HWW : Hid (Below w.heap.size w W) := by rw [hW]; exact (Below.refl _ w).alloc (Nat.le_refl _) _
  have HBV : Hid (∀ V, Below W.heap.size W V → Bk V bx 38 #[.int .i64 xa, .int .i64 xd, .int .i64 xi, .int .i64 xq, .int .i64 xp]) := fun V h => HBX.out.below h HBX.out.lt
  have HRL : Hid (Rd W W.heap.size 5 B m (lcs l)) := (hrl.below HWW.out).mono HWW.out.size
  have hfind := rfind_any B m d l xa xd W (by unfold maxLen; omega) HRL.out
  rw [hfs] at hfind
  have HFIND := Lib.hid hfind
  have HR := Lib.hid hr
  have HLM := Lib.hid hlm
  have HKEY := Lib.hid hkey
  have HLESS := Lib.hid hless
  have HMORE := Lib.hid hmore
  have HFIN : Hid (∀ V, Below W.heap.size W V → Below w.heap.size w V) := fun V h => HWW.out.trans (h.mono HWW.out.size)
  have hww : w.heap.size ≤ W.heap.size := HWW.out.size
  clear hrl hlm hso hr hp hth hkey hless hmore hfs hfind hpe hte
  unfold Lc.val
  go_enter Try.func25, Try.ntmps25
  go_upto_region 1 with (fail)
  rw [← hW, ← hbx]
  clear hW hbx
  obtain ⟨b0, b1, b2, b3, b4, e0, e1, e2, e3, e4, bxg⟩ := HBX.out.five
  go_wp2_with fail
  refine HFIND.out.mono ?_
  rintro e w1 ⟨rfl, hb1⟩
  have HB1 := Lib.hid hb1
  clear hb1
  clear b0 b1 b2 b3 b4 e0 e1 e2 e3 e4 bxg
  cases th with
  | true =>
    have e : r = ([], 35) := by rw [HR.out, if_pos rfl]
    subst e
    rw [if_pos rfl]
    have i1 : (0 : Int) ≤ (p : Int) := by omega
    go_wp2
    go_ret2
    exact l_bad 35 (HFIN.out _ HB1.out)
  | false =>
  rw [if_neg (by simp)]
  have er := HR.out
  rw [if_neg (by simp)] at er
  by_cases h64 : 32 ≤ m
  · have e : r = ([], 40) := by rw [er, if_pos (by rw [HLM.out]; exact h64)]
    subst e
    have j6 : (32 : Int) ≤ (m : Int) := by omega
    clear er
    go_wp2
    go_ret2
    exact l_bad 40 (HFIN.out _ HB1.out)
  have j6 : ¬ ((32 : Int) ≤ (m : Int)) := by omega
  rw [if_neg (by rw [HLM.out]; exact h64)] at er
  have HER2 := Lib.hid er
  clear er HR
  obtain ⟨i0, hinf, hz0, hz1, hz2⟩ := info_parts info38
  go_wp2
  go_loopw [22, 6, 7] (fun vi vo vl wr => ∃ k : Nat, k ≤ m ∧ vi = .int .i64 k ∧ BuildAt W (outL l p false [(⟨xa, xd, xi, xq, xp⟩ : Lc)] k) (decide (p < k)) vo vl wr) (fun vi _ _ _ => m - (intOf vi).toNat)
  case atStart => exact ⟨0, Nat.zero_le _, rfl, none, 0, by rw [outL_zero]; rfl, by simp, by rw [outL_zero]; exact World.ownsRow_nil _ _ _ _, HB1.out⟩
  case round =>
    obtain ⟨k, hk, rfl, A0, c0', rfl, rfl, hown, hbv⟩ := hrel
    rename World => V4
    have hol : (outL l p false [(⟨xa, xd, xi, xq, xp⟩ : Lc)] k).length ≤ 1000001 := by have := @outL_len l [(⟨xa, xd, xi, xq, xp⟩ : Lc)] p k false (by simp) (by have := HLM.out; omega); omega
    obtain ⟨out, hout⟩ : ∃ out, out = outL l p false [(⟨xa, xd, xi, xq, xp⟩ : Lc)] k := ⟨_, rfl⟩
    rw [← hout] at hown hol
    rw [← hout]
    have HOUT := Lib.hid hout
    have HO4 := Lib.hid hown
    have HB4 := Lib.hid hbv
    clear hown hbv hout
    have hrx : ∀ V : World, Rd (V.alloc (.cells #[.int .i64 xa, .int .i64 xd, .int .i64 xi, .int .i64 xq, .int .i64 xp] 38)) (V.heap.size + 1) 5 (some ⟨V.heap.size, 0, none⟩) 1 (Lc.cells ⟨xa, xd, xi, xq, xp⟩) := fun V => rd_one (x := ⟨xa, xd, xi, xq, xp⟩) (Bk.new _ _ _)
    by_cases hlt : k < m
    · have hjl : k < l.length := by have := HLM.out; omega
      obtain ⟨b0', hA, _, c0, c1x, c2, c3, c4⟩ := rd_loc (HRL.out.below HB4.out) hjl
      obtain ⟨y, hy⟩ : ∃ y, y = l[k] := ⟨_, rfl⟩
      rw [← hy] at c0 c1x c2 c3 c4
      have HY : Hid (l.getD k default = y) := by rw [hy]; exact getD_lt hjl
      clear hy
      obtain ⟨ya, yd, yi, yq, yp⟩ := y
      dsimp only at c0 c1x c2 c3 c4
      subst hA
      have j1 : (k : Int) < (m : Int) := by omega
      have j2 : (0 : Int) ≤ (k : Int) := by omega
      have j4 : IntKind.i64.wrap ((k : Int) + 1) = (k : Int) + 1 := IntWalk.i64_in _ (by omega)
      obtain ⟨V3, hV3⟩ : ∃ V3, V3 = V4.alloc (.cells #[.int .i64 ya, .int .i64 yd, .int .i64 yi, .int .i64 yq, .int .i64 yp] 38) := ⟨_, rfl⟩
      obtain ⟨bY, hbY⟩ : ∃ bY, bY = V4.heap.size := ⟨_, rfl⟩
      have HBY : Hid (Bk V3 bY 38 #[.int .i64 ya, .int .i64 yd, .int .i64 yi, .int .i64 yq, .int .i64 yp]) := by rw [hV3, hbY]; exact Bk.new _ _ _
      have HO3 : Hid (V3.ownsRow W.heap.size 38 5 (.slice A0 out.length c0') out.length (lcs out)) := by rw [hV3]; exact HO4.out.alloc _
      have HB3 : Hid (Below W.heap.size W V3) := by rw [hV3]; exact HB4.out.alloc HB4.out.size _
      have hV3s : W.heap.size ≤ V3.heap.size := HB3.out.size
      have HNEB : Hid (some bY ≠ (Value.slice A0 out.length c0').ownBlock) := by rw [hbY]; exact own_ne_new HO4.out
      have hry : Rd (V3.alloc (.cells #[.int .i64 ya, .int .i64 yd, .int .i64 yi, .int .i64 yq, .int .i64 yp] 38)) (V3.heap.size + 1) 5 (some ⟨V3.heap.size, 0, none⟩) 1 (Lc.cells ⟨ya, yd, yi, yq, yp⟩) := rd_one (x := ⟨ya, yd, yi, yq, yp⟩) (Bk.new _ _ _)
      go_upto_region 10 with (fail)
      rw [← hV3, ← hbY]
      clear hV3 hbY c0 c1x c2 c3 c4
      obtain ⟨x0, x1, x2, x3, x4, z0, z1, z2, z3, z4, hxg⟩ := HBY.out.five
      obtain ⟨b0, b1, b2, b3, b4, e0, e1, e2, e3, e4, bxg⟩ := (HBV.out V3 HB3.out).five
      have hkj := HKEY.out k hlt
      rw [HY.out, show ((⟨ya, yd, yi, yq, yp⟩ : Lc).is xa xd = true) = (ya = xa ∧ yd = xd) from by simp [Lc.is]] at hkj
      have hnk : ¬ (ya = xa ∧ yd = xd) := fun h => by have := (hkj.1 h).2; cases this
      by_cases hkp : k < p
      · have hls := HLESS.out k hkp
        rw [HY.out] at hls
        dsimp only at hls
        have hd : (decide (p < k)) = false := decide_eq_false (by omega)
        have hd2 : (decide (p < k + 1)) = false := decide_eq_false (by omega)
        rw [hd]
        have HD2 := Lib.hid hd2
        have e1 := (show outL l p false [(⟨xa, xd, xi, xq, xp⟩ : Lc)] (k + 1) = out ++ [⟨ya, yd, yi, yq, yp⟩] by rw [outL_low hjl (by omega), ← HOUT.out, HY.out])
        have HE1 := Lib.hid e1
        clear hd hd2 hkj hnk e1
        by_cases hxa : ya = xa
        · have g1 : ¬ (xd < yd) := by omega
          subst hxa
          clear hls
          go_upto_region 14 with (at_builtin; go_must (refine wpList_append_rd _ rfl (.tmp 53) (.tmp 55) _ rfl W.heap.size 38 i0 _ 5 40 Try.underlying32 hinf hz0 hz1 hz2 rfl (by omega) _ out.length (lcs out) rfl (HO3.out.alloc _) _ _ 1 1 _ rfl hry (cells_one _) (by unfold maxLen; omega) (by omega) (by simp; omega) ?_); intro A1 c1' w3 h1 h2 hown1 hg1 hat1)
          go_wp2
          refine ⟨⟨k + 1, by omega, by push_cast; rfl, ?_⟩, by simp only [intOf]; omega⟩
          rw [HD2.out]
          exact BuildAt.app HO3.out HB3.out hown1 hg1 HE1.out
        · have g2 : (ya == xa) = false := by simpa using hxa
          have g1 : ¬ (xa < ya) := by omega
          clear hls
          go_upto_region 14 with (at_builtin; go_must (refine wpList_append_rd _ rfl (.tmp 53) (.tmp 55) _ rfl W.heap.size 38 i0 _ 5 40 Try.underlying32 hinf hz0 hz1 hz2 rfl (by omega) _ out.length (lcs out) rfl (HO3.out.alloc _) _ _ 1 1 _ rfl hry (cells_one _) (by unfold maxLen; omega) (by omega) (by simp; omega) ?_); intro A1 c1' w3 h1 h2 hown1 hg1 hat1)
          go_wp2
          refine ⟨⟨k + 1, by omega, by push_cast; rfl, ?_⟩, by simp only [intOf]; omega⟩
          rw [HD2.out]
          exact BuildAt.app HO3.out HB3.out hown1 hg1 HE1.out
      by_cases hkp2 : k = p
      · have hmr := HMORE.out k hlt (by omega) (by rw [HY.out]; exact decide_eq_false hnk)
        rw [HY.out] at hmr
        dsimp only at hmr
        have hd : (decide (p < k)) = false := decide_eq_false (by omega)
        rw [hd]
        have HD2 : Hid ((decide (p < k + 1)) = true) := decide_eq_true (by omega)
        have e1 : outL l p false [(⟨xa, xd, xi, xq, xp⟩ : Lc)] (k + 1) = out ++ [⟨xa, xd, xi, xq, xp⟩] ++ [⟨ya, yd, yi, yq, yp⟩] := by
          rw [HOUT.out, hkp2, outL_not rfl (by rw [← hkp2]; exact hjl)]
          have := HY.out
          rw [hkp2] at this
          rw [this]
        have HE1 := Lib.hid e1
        clear e1 hd hkj hkp2 hkp
        by_cases hxa : ya = xa
        · have g1 : xd < yd := by omega
          subst hxa
          clear hmr hnk
          go_upto_region 13 with (at_builtin; go_must (refine wpList_append_rd _ rfl (.tmp 49) (.tmp 51) _ rfl W.heap.size 38 i0 _ 5 40 Try.underlying32 hinf hz0 hz1 hz2 rfl (by omega) _ out.length (lcs out) rfl (HO3.out.alloc _) _ _ 1 1 _ rfl (hrx _) (cells_one _) (by unfold maxLen; omega) (by omega) (by simp; omega) ?_); intro A5 c5 w5 h1 h2 hown1 hg1 hat1; have HBY1 : Hid (Bk w5 bY 38 #[.int .i64 ya, .int .i64 yd, .int .i64 yi, .int .i64 yq, .int .i64 yp]) := (HBY.out.alloc _).grown hg1 HNEB.out; have HO5 : Hid (w5.ownsRow W.heap.size 38 5 (.slice A5 (out.length + 1) c5) (out.length + 1) (lcs (out ++ [⟨ya, xd, xi, xq, xp⟩]))) := (by rw [lcs_append, lcs_single]; exact hown1); have HB5 : Hid (Below W.heap.size W w5) := ((HB3.out.alloc hV3s _).grown hg1 (by simp; omega) (fun b hb => (HO3.out.lt b hb).1)); clear x0 x1 x2 x3 x4 z0 z1 z2 z3 z4 hxg; clear b0 b1 b2 b3 b4 e0 e1 e2 e3 e4 bxg; clear hown1 hg1 hat1; obtain ⟨x0, x1, x2, x3, x4, z0, z1, z2, z3, z4, hxg⟩ := HBY1.out.five)
          have hV5 : W.heap.size ≤ w5.heap.size := HB5.out.size
          have hry2 : Rd (w5.alloc (.cells #[.int .i64 ya, .int .i64 yd, .int .i64 yi, .int .i64 yq, .int .i64 yp] 38)) (w5.heap.size + 1) 5 (some ⟨w5.heap.size, 0, none⟩) 1 (Lc.cells ⟨ya, yd, yi, yq, yp⟩) := rd_one (x := ⟨ya, yd, yi, yq, yp⟩) (Bk.new _ _ _)
          go_upto_region 14 with (at_builtin; go_must (refine wpList_append_rd _ rfl (.tmp 53) (.tmp 55) _ rfl W.heap.size 38 i0 _ 5 40 Try.underlying32 hinf hz0 hz1 hz2 rfl (by omega) _ (out.length + 1) (lcs (out ++ [⟨ya, xd, xi, xq, xp⟩])) rfl (HO5.out.alloc _) _ _ 1 1 _ rfl hry2 (cells_one _) (by unfold maxLen; omega) (by omega) (by simp; omega) ?_); intro A1 c1' w3 h1 h2 hown1 hg1 hat1)
          go_wp2
          refine ⟨⟨k + 1, by omega, by push_cast; rfl, ?_⟩, by simp only [intOf]; omega⟩
          rw [HD2.out]
          have ho5 : w5.ownsRow W.heap.size 38 5 (.slice A5 (out ++ [(⟨ya, xd, xi, xq, xp⟩ : Lc)]).length c5) (out ++ [(⟨ya, xd, xi, xq, xp⟩ : Lc)]).length (lcs (out ++ [⟨ya, xd, xi, xq, xp⟩])) := by have h := HO5.out; simpa using h
          have hx5 : w3.ownsRow W.heap.size 38 5 (.slice A1 ((out ++ [(⟨ya, xd, xi, xq, xp⟩ : Lc)]).length + 1) c1') ((out ++ [(⟨ya, xd, xi, xq, xp⟩ : Lc)]).length + 1) (lcs (out ++ [⟨ya, xd, xi, xq, xp⟩]) ++ Lc.cells ⟨ya, yd, yi, yq, yp⟩) := by rw [List.length_append]; exact hown1
          have hfin := BuildAt.app (lv := true) ho5 HB5.out hx5 (by rw [List.length_append]; exact hg1) HE1.out
          rw [List.length_append] at hfin
          exact hfin
        · have g2 : (ya == xa) = false := by simpa using hxa
          have g1 : xa < ya := by omega
          clear hmr hnk
          go_upto_region 13 with (at_builtin; go_must (refine wpList_append_rd _ rfl (.tmp 49) (.tmp 51) _ rfl W.heap.size 38 i0 _ 5 40 Try.underlying32 hinf hz0 hz1 hz2 rfl (by omega) _ out.length (lcs out) rfl (HO3.out.alloc _) _ _ 1 1 _ rfl (hrx _) (cells_one _) (by unfold maxLen; omega) (by omega) (by simp; omega) ?_); intro A5 c5 w5 h1 h2 hown1 hg1 hat1; have HBY1 : Hid (Bk w5 bY 38 #[.int .i64 ya, .int .i64 yd, .int .i64 yi, .int .i64 yq, .int .i64 yp]) := (HBY.out.alloc _).grown hg1 HNEB.out; have HO5 : Hid (w5.ownsRow W.heap.size 38 5 (.slice A5 (out.length + 1) c5) (out.length + 1) (lcs (out ++ [⟨xa, xd, xi, xq, xp⟩]))) := (by rw [lcs_append, lcs_single]; exact hown1); have HB5 : Hid (Below W.heap.size W w5) := ((HB3.out.alloc hV3s _).grown hg1 (by simp; omega) (fun b hb => (HO3.out.lt b hb).1)); clear x0 x1 x2 x3 x4 z0 z1 z2 z3 z4 hxg; clear b0 b1 b2 b3 b4 e0 e1 e2 e3 e4 bxg; clear hown1 hg1 hat1; obtain ⟨x0, x1, x2, x3, x4, z0, z1, z2, z3, z4, hxg⟩ := HBY1.out.five)
          have hV5 : W.heap.size ≤ w5.heap.size := HB5.out.size
          have hry2 : Rd (w5.alloc (.cells #[.int .i64 ya, .int .i64 yd, .int .i64 yi, .int .i64 yq, .int .i64 yp] 38)) (w5.heap.size + 1) 5 (some ⟨w5.heap.size, 0, none⟩) 1 (Lc.cells ⟨ya, yd, yi, yq, yp⟩) := rd_one (x := ⟨ya, yd, yi, yq, yp⟩) (Bk.new _ _ _)
          go_upto_region 14 with (at_builtin; go_must (refine wpList_append_rd _ rfl (.tmp 53) (.tmp 55) _ rfl W.heap.size 38 i0 _ 5 40 Try.underlying32 hinf hz0 hz1 hz2 rfl (by omega) _ (out.length + 1) (lcs (out ++ [⟨xa, xd, xi, xq, xp⟩])) rfl (HO5.out.alloc _) _ _ 1 1 _ rfl hry2 (cells_one _) (by unfold maxLen; omega) (by omega) (by simp; omega) ?_); intro A1 c1' w3 h1 h2 hown1 hg1 hat1)
          go_wp2
          refine ⟨⟨k + 1, by omega, by push_cast; rfl, ?_⟩, by simp only [intOf]; omega⟩
          rw [HD2.out]
          have ho5 : w5.ownsRow W.heap.size 38 5 (.slice A5 (out ++ [(⟨xa, xd, xi, xq, xp⟩ : Lc)]).length c5) (out ++ [(⟨xa, xd, xi, xq, xp⟩ : Lc)]).length (lcs (out ++ [⟨xa, xd, xi, xq, xp⟩])) := by have h := HO5.out; simpa using h
          have hx5 : w3.ownsRow W.heap.size 38 5 (.slice A1 ((out ++ [(⟨xa, xd, xi, xq, xp⟩ : Lc)]).length + 1) c1') ((out ++ [(⟨xa, xd, xi, xq, xp⟩ : Lc)]).length + 1) (lcs (out ++ [⟨xa, xd, xi, xq, xp⟩]) ++ Lc.cells ⟨ya, yd, yi, yq, yp⟩) := by rw [List.length_append]; exact hown1
          have hfin := BuildAt.app (lv := true) ho5 HB5.out hx5 (by rw [List.length_append]; exact hg1) HE1.out
          rw [List.length_append] at hfin
          exact hfin
      · have hd : (decide (p < k)) = true := decide_eq_true (by omega)
        rw [hd]
        have HD2 : Hid ((decide (p < k + 1)) = true) := decide_eq_true (by omega)
        have e1 := (show outL l p false [(⟨xa, xd, xi, xq, xp⟩ : Lc)] (k + 1) = out ++ [⟨ya, yd, yi, yq, yp⟩] by rw [outL_high hjl (by omega), ← HOUT.out, HY.out])
        have HE1 := Lib.hid e1
        clear hd hkj hnk e1
        go_upto_region 14 with (at_builtin; go_must (refine wpList_append_rd _ rfl (.tmp 53) (.tmp 55) _ rfl W.heap.size 38 i0 _ 5 40 Try.underlying32 hinf hz0 hz1 hz2 rfl (by omega) _ out.length (lcs out) rfl (HO3.out.alloc _) _ _ 1 1 _ rfl hry (cells_one _) (by unfold maxLen; omega) (by omega) (by simp; omega) ?_); intro A1 c1' w3 h1 h2 hown1 hg1 hat1)
        go_wp2
        refine ⟨⟨k + 1, by omega, by push_cast; rfl, ?_⟩, by simp only [intOf]; omega⟩
        rw [HD2.out]
        exact BuildAt.app HO3.out HB3.out hown1 hg1 HE1.out
    · have j5 : ¬ ((k : Int) < (m : Int)) := by omega
      have hkm : k = m := by omega
      by_cases hpe : p < m
      · have hd : (decide (p < k)) = true := decide_eq_true (by omega)
        have e : r = (out, 0) := by rw [HER2.out, HOUT.out, hkm, ← HLM.out, outL_new (by rw [HLM.out]; exact hpe)]; rfl
        subst e
        obtain ⟨_, _, hcc, h5, h6⟩ := own_form HO4.out
        injection hcc with hA2 _ hcc
        subst hA2 hcc
        rw [hd]
        clear hd
        go_wp2
        go_ret2
        exact l_ok rfl h5 h6 (own_mono HO4.out hww) (HFIN.out _ HB4.out)
      · have hd : (decide (p < k)) = false := decide_eq_false (by omega)
        obtain ⟨zs, hzs⟩ : ∃ zs, zs = out ++ [(⟨xa, xd, xi, xq, xp⟩ : Lc)] := ⟨_, rfl⟩
        have e : r = (zs, 0) := by
          rw [HER2.out, hzs, HOUT.out, hkm, ← HLM.out, outL_all (by have := HLM.out; omega), List.take_of_length_le (by have := HLM.out; omega), List.drop_eq_nil_of_le (by have := HLM.out; omega)]
        subst e
        have HZS := Lib.hid hzs
        rw [hd]
        have hV4s : W.heap.size ≤ V4.heap.size := HB4.out.size
        clear hd hzs
        obtain ⟨b0, b1, b2, b3, b4, e0, e1, e2, e3, e4, bxg⟩ := (HBV.out V4 HB4.out).five
        go_upto_region 17 with (at_builtin; go_must (refine wpList_append_rd _ rfl (.tmp 60) (.tmp 62) _ rfl W.heap.size 38 i0 _ 5 40 Try.underlying32 hinf hz0 hz1 hz2 rfl (by omega) _ out.length (lcs out) rfl (HO4.out.alloc _) _ _ 1 1 _ rfl (hrx _) (cells_one _) (by unfold maxLen; omega) (by omega) (by simp; omega) ?_); intro A1 c1' w3 h1 h2 hown1 hg1 hat1)
        go_wp2
        go_ret2
        have ho := own_app (y := ⟨xa, xd, xi, xq, xp⟩) hown1
        rw [← HZS.out] at ho
        exact l_ok (by rw [HZS.out]; simp) h1 h2 (own_mono (by rw [show zs.length = out.length + 1 by rw [HZS.out]; simp] at ho; exact ho) hww) (HFIN.out _ ((HB4.out.alloc hV4s _).grown hg1 (by simp; omega) (fun b hb => (HO4.out.lt b hb).1)))

end Go.Proofs.Ytiapbgbbeakoiaa.O
