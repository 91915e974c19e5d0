/- Walk: the document's Cut. -/
import Derived.Test.YtiapbgbbeakoiaaOR3
namespace Go.Proofs.Ytiapbgbbeakoiaa.O
open Go.RowKit

theorem take_big {α : Type} (X D : List α) (N : Nat) (h : X.length ≤ N) : (X ++ D).take N = X ++ D.take (N - X.length) := by rw [List.take_append, List.take_of_length_le h]
/-- One element laid over. -/
theorem own_over {w : World} {base n c g : Nat} {cur : Array Value} {l : List Lc} {p : Nat} {x : Lc} (hgb : base ≤ g) (hB : Bk w g 38 cur) (hmc : n ≤ c) (hcm : c ≤ maxLen) (hsz : cur.size = c * 5) (hl : l.length = n) (hcur : cur.toList.take (n * 5) = lcs l) (hp : p < n) :
    (w.setCells g (p * 5) x.cells).ownsRow base 38 5 (.slice (some ⟨g, 0, none⟩) n c) n (lcs (l.take p ++ ([x] ++ l.drop (p + 1)))) := by
  have hp5 : p * 5 + 5 ≤ cur.size := by omega
  refine own_shut hgb (Bk.cells x.cells (p * 5) hB) hmc hcm (by rw [ow_size]; exact hsz) (by rw [List.length_append, List.length_append, List.length_take, List.length_drop]; simp; omega) ?_
  have hx5 : x.cells.length = 5 := rfl
  have e0 : cur.toList.take (p * 5) = lcs (l.take p) := by rw [← lcs_take, ← hcur, List.take_take, Nat.min_eq_left (by omega)]
  have e1 : lcs (l.take p ++ ([x] ++ l.drop (p + 1))) = lcs (l.take p) ++ (x.cells ++ lcs (l.drop (p + 1))) := by rw [lcs_append]; rfl
  have e2 : lcs (l.drop (p + 1)) = (cur.toList.drop (p * 5 + 5)).take (n * 5 - (p * 5 + 5)) := by
    rw [← lcs_drop, ← hcur, List.drop_take, show (p + 1) * 5 = p * 5 + 5 by omega]
  have ht0 : (cur.toList.take (p * 5)).length = p * 5 := by rw [List.length_take, Array.length_toList]; omega
  have hX : (cur.toList.take (p * 5) ++ x.cells).length = p * 5 + 5 := by rw [List.length_append, ht0, hx5]
  rw [ow_list _ _ _ (by rw [hx5]; omega), hx5, e1, ← List.append_assoc, take_big _ _ _ (by rw [hX]; omega), hX, e2, e0, List.append_assoc]

set_option maxHeartbeats 8000000 in
set_option maxRecDepth 100000 in
theorem rcut_any (A : Option Addr) (n c : Nat) (l : List Lc) (a i q : Int) (w : World) (htl : tidyB l = true) (hn : n ≤ 1000000) (hnc : n ≤ c) (hq63 : q ≤ 9223372036854775807) (hr : Rd w w.heap.size 5 A n (lcs l)) :
    Calls Try.prog 30 #[.slice A n c, .int .i64 a, .int .i64 i, .int .i64 q] w (COut w (cutL l a i q)) := by
  have hl : l.length = n := by have := hr.1; rw [lcs_len] at this; omega
  obtain ⟨htl1, htl2⟩ := (tidy_iff l).1 htl
  have hso := sorted_of l htl1
  obtain ⟨r, hr'⟩ : ∃ r, r = cutL l a i q := ⟨_, rfl⟩
  rw [← hr']
  have HF := rfind_any A n c l a i w (by unfold maxLen; omega) hr
  rw [findL_sorted hso] at HF
  have hth0 := fun h => there_lt (l := l) (x := ⟨a, i, 0, 0, 0⟩) h
  have hkey0 := fun (j : Nat) (hj : j < l.length) => hso.key ⟨a, i, 0, 0, 0⟩ hj
  have hrr := hr'
  unfold cutL at hrr
  have hdr : dropL l a i = if thereB l ⟨a, i, 0, 0, 0⟩ = true then (l.take (place l ⟨a, i, 0, 0, 0⟩) ++ l.drop (place l ⟨a, i, 0, 0, 0⟩ + 1), 0) else ([], 34) := rfl
  obtain ⟨p, hp⟩ : ∃ p, p = place l ⟨a, i, 0, 0, 0⟩ := ⟨_, rfl⟩
  obtain ⟨th, hth⟩ : ∃ th, th = thereB l ⟨a, i, 0, 0, 0⟩ := ⟨_, rfl⟩
  rw [← hp, ← hth] at HF hrr hdr
  rw [← hp, ← hth] at hth0
  rw [← hp, ← hth] at hkey0
  have hthp : th = true → p < n := fun ht => by have := hth0 ht; omega
  have HRR := Lib.hid hrr
  have HQ := Lib.hid htl2
  have HSO := Lib.hid hso
  have HRD := Lib.hid hr
  have HL := Lib.hid hl
  have HFF := Lib.hid HF
  have HDR := Lib.hid hdr
  have HKEY := Lib.hid hkey0
  clear hr' hso hr hl hp hth hth0 hrr HF htl htl1 htl2 hdr hkey0
  go_enter Try.func30, Try.ntmps30
  go_wp2_with fail
  refine HFF.out.mono ?_
  rintro e w1 ⟨rfl, hb1⟩
  cases th with
  | false =>
    have e : r = ([], 0, 34) := by rw [HRR.out, if_neg (by simp)]
    subst e
    rw [if_neg (by simp)]
    go_wp2
    go_ret3
    exact c_bad 34 hb1
  | true =>
  rw [if_pos rfl]
  have hpn := hthp rfl
  have er := HRR.out
  rw [if_pos rfl] at er
  have hkk := (HKEY.out p (by rw [HL.out]; exact hpn)).2 ⟨rfl, rfl⟩
  have i1 : (0 : Int) ≤ (p : Int) := by omega
  have i1' : ¬ ((p : Int) < 0) := by omega
  have i2 : (p : Int) < (n : Int) := by omega
  have HB1 := Lib.hid hb1
  clear hb1
  have hql := HQ.out p (by rw [HL.out]; exact hpn)
  obtain ⟨a0, hA0, hab, c0, c1', c2', c2, c4⟩ := rd_loc (HRD.out.below HB1.out) (show p < l.length by rw [HL.out]; exact hpn)
  have hel : l[p]'(by rw [HL.out]; exact hpn) = l.getD p default := getD_eta l _
  rw [hel] at c2
  obtain ⟨⟨ka, kd, ki, qh, kp⟩, hh⟩ : ∃ x, x = l.getD p default := ⟨_, rfl⟩
  rw [← hh] at er hql c2 hkk
  dsimp only at er hql c2
  subst hA0
  have hq5 : -1000000000 ≤ qh ∧ qh ≤ 1000000000 := of_decide_eq_true hql
  obtain ⟨hq50, hq51⟩ := hq5
  obtain ⟨s, hs⟩ : ∃ s, s = absI qh := ⟨_, rfl⟩
  have hs' : (qh < 0 → s = -qh) ∧ (¬ qh < 0 → s = qh) := by rw [hs]; unfold absI; exact ⟨fun h => if_pos h, fun h => if_neg h⟩
  have hsb : 0 ≤ s ∧ s ≤ 1000000000 := by
    by_cases h0 : qh < 0
    · have := hs'.1 h0; omega
    · have := hs'.2 h0; omega
  have habs := abs_any qh w1 hq50 hq51
  rw [← hs] at habs er
  have HABS := Lib.hid habs
  have HER := Lib.hid er
  have HH := Lib.hid hh
  have HKK := Lib.hid hkk
  have HS' := Lib.hid hs'
  clear er hql hh hel c0 c1' c2' c4 hab habs hs hs' hkk
  go_wp2_with fail
  refine HABS.out.mono ?_
  rintro e w1' ⟨rfl, hw1⟩
  rw [hw1]
  clear hw1 w1' c2 HABS
  by_cases hq1 : q < 1
  · have e : r = ([], 0, 36) := by rw [HER.out, if_pos (.inl hq1)]
    subst e
    go_wp2
    go_ret3
    exact c_bad 36 HB1.out
  obtain ⟨hsb0, hsb1⟩ := hsb
  have iw : IntKind.i64.wrap (s - q) = s - q := IntWalk.i64_in _ (by omega)
  by_cases hq2 : s - q < 0
  · have e : r = ([], 0, 36) := by rw [HER.out, if_pos (.inr (by omega))]
    subst e
    go_wp2
    go_ret3
    exact c_bad 36 HB1.out
  have er := HER.out
  rw [if_neg (by omega)] at er
  by_cases hsq : s = q
  · have e : r = (l.take p ++ l.drop (p + 1), 0, 0) := by rw [er, if_pos hsq]
    obtain ⟨zs, hzs⟩ : ∃ zs, zs = l.take p ++ l.drop (p + 1) := ⟨_, rfl⟩
    rw [← hzs] at e
    have HE := Lib.hid e
    have hz : s - q = 0 := by omega
    have hz2 : (s - q == 0) = true := by simpa using hz
    have hd := rdrop_any (some a0) n c l a i w1 HSO.out hn hnc ((HRD.out.below HB1.out).mono HB1.out.size)
    rw [HDR.out, if_pos (by simp), ← hzs] at hd
    have HD := Lib.hid hd
    clear e er hz hd HER hsq hzs
    go_wp2_with fail
    refine HD.out.mono ?_
    rintro e w2 ⟨A2, c2, rfl, hc2, hm2, ho2, hb2⟩
    dsimp only at hc2 ho2 ⊢
    have HC2 := Lib.hid hc2
    have HM2 := Lib.hid hm2
    have HO2 := Lib.hid ho2
    have HB2 := Lib.hid hb2
    clear hc2 hm2 ho2 hb2
    go_wp2
    go_ret3
    rw [HE.out]
    exact c_ok rfl HC2.out HM2.out (own_mono HO2.out HB1.out.size) (HB1.out.trans (HB2.out.mono HB1.out.size))
  obtain ⟨y, hy⟩ : ∃ y, y = if qh < 0 then qh + q else qh - q := ⟨_, rfl⟩
  have e : r = (putQ l p y, s - q, 0) := by rw [er, if_neg hsq, hy]
  have hs' := HS'.out
  have hy' : (qh < 0 → y = -(s - q)) ∧ (¬ qh < 0 → y = s - q) := by
    rw [hy]
    refine ⟨fun h => ?_, fun h => ?_⟩
    · rw [if_pos h]; have := hs'.1 (by omega); omega
    · rw [if_neg h]; have := hs'.2 (by omega); omega
  have hpq : putQ l p y = l.take p ++ ([⟨ka, kd, ki, y, kp⟩] ++ l.drop (p + 1)) := by
    unfold putQ
    rw [set_split l (by rw [HL.out]; exact hpn), ← HH.out]
  have HPQ := Lib.hid hpq
  have HE := Lib.hid e
  have hz : ¬ s - q = 0 := by omega
  have hz2 : (s - q == 0) = false := by simpa using hz
  have hqz : (qh > 0 ∧ y = s - q) ∨ (¬ qh > 0 ∧ y = -(s - q)) := by
    by_cases h0 : qh < 0
    · exact .inr ⟨by omega, hy'.1 h0⟩
    · exact .inl ⟨by have := hs'.2 (by omega); omega, hy'.2 h0⟩
  clear e er hz hpq HER hy hy' hs'
  obtain ⟨i0, hinf, hz0, hz1, hz2'⟩ := info_parts info38
  have hown0 : (w1.alloc (.cells #[] 38)).ownsRow w1.heap.size 38 5 (.slice (some ⟨w1.heap.size, 0, none⟩) 0 0) 0 [] := ⟨by simp, .inr ⟨w1.heap.size, 0, #[], rfl, Nat.le_refl _, Bk.new _ _ _, Nat.le_refl _, Nat.zero_le _, by simp, by simp⟩⟩
  have hr1 : Rd (w1.alloc (.cells #[] 38)) w1.heap.size 5 (some a0) n (lcs l) := ((HRD.out.below HB1.out).mono HB1.out.size).alloc (Nat.le_refl _) _
  have one1 := lcs_one l
  go_upto_region 11 with (at_builtin; go_must (refine wpList_append_rd _ rfl (.tmp 47) (.tmp 48) _ rfl w1.heap.size 38 i0 _ 5 40 Try.underlying32 hinf hz0 hz1 hz2' rfl (by omega) _ 0 [] rfl hown0 w1.heap.size (some a0) n c _ rfl hr1 one1 (by unfold maxLen; omega) (by omega) (by simp) ?_); intro A1 c1 w3 h1 h2 hown1 hg1 hat1)
  simp only [Nat.zero_add, List.nil_append] at h1 hown1 ⊢
  have HB3 : Hid (Below w1.heap.size w1 w3) := ((Below.refl w1.heap.size w1).alloc (Nat.le_refl _) _).grown hg1 (by simp) (fun k hk' => Nat.le_of_eq (Option.some.inj hk'))
  obtain ⟨g0, rfl⟩ : ∃ g0, A1 = some g0 := by
    rcases A1 with _ | g0
    · rcases hown1.2 with ⟨_, h0⟩ | ⟨_, _, _, hv, _⟩
      · omega
      · cases hv
    · exact ⟨g0, rfl⟩
  obtain ⟨g, cur, rfl, hgb, hB, hmc, hcm, hsz, hcur⟩ := own_open hown1
  obtain ⟨a1, hA1, _, d0, d1, d2, d3, d4⟩ := rd_loc (Rd.of_own hown1) (show p < l.length by rw [HL.out]; exact hpn)
  have hel : l[p]'(by rw [HL.out]; exact hpn) = l.getD p default := getD_eta l _
  injection hA1 with hA1
  subst hA1
  rw [hel, ← HH.out] at d0 d1 d2 d3 d4
  simp only [add0, Nat.zero_add] at d0 d1 d2 d3 d4
  have hgl := hB.lt
  have hlp : p * 5 + 4 < cur.size := by omega
  have HMC := Lib.hid hmc
  have HCM := Lib.hid hcm
  have HSZ := Lib.hid hsz
  have HCUR := Lib.hid hcur
  have HBG := Lib.hid hB
  clear hown0 hr1 one1 hown1 hg1 hat1 h1 h2 hel hB hmc hcm hsz hcur
  obtain ⟨W4, hW4⟩ : ∃ W4, W4 = w3.alloc (.cells #[.int .i64 ka, .int .i64 kd, .int .i64 ki, .int .i64 qh, .int .i64 kp] 38) := ⟨_, rfl⟩
  obtain ⟨bo, hbo⟩ : ∃ bo, bo = w3.heap.size := ⟨_, rfl⟩
  have HBO : Hid (Bk W4 bo 38 #[.int .i64 ka, .int .i64 kd, .int .i64 ki, .int .i64 qh, .int .i64 kp]) := by rw [hW4, hbo]; exact Bk.new _ _ _
  have HBG4 : Hid (Bk W4 g 38 cur) := by rw [hW4]; exact HBG.out.alloc _
  have hgo : g ≠ bo := by omega
  have HB4 : Hid (Below w1.heap.size w1 W4) := by rw [hW4]; exact HB3.out.alloc HB3.out.size _
  have hbo1 : w1.heap.size ≤ bo := by rw [hbo]; exact HB3.out.size
  go_upto_region 12 with (fail)
  rw [← hW4, ← hbo]
  clear hW4 hbo d0 d1 d2 d3 d4 hgl
  obtain ⟨x0, x1, x2, x3, x4, z0, z1, z2, z3, z4, hxg⟩ := HBO.out.five
  obtain ⟨W5, hW5⟩ : ∃ W5, W5 = W4.setCell ⟨bo, 3, none⟩ (.int .i64 y) := ⟨_, rfl⟩
  have HBO5 : Hid (Bk W5 bo 38 #[.int .i64 ka, .int .i64 kd, .int .i64 ki, .int .i64 y, .int .i64 kp]) := by rw [hW5]; exact HBO.out.set 3 _
  have HBG5 : Hid (Bk W5 g 38 cur) := by rw [hW5]; exact HBG4.out.far (p := ⟨bo, 3, none⟩) hgo _
  have HB5 : Hid (Below w1.heap.size w1 W5) := by rw [hW5]; exact Below.setCell HB4.out (p := ⟨bo, 3, none⟩) hbo1 _
  have HOS := Lib.hid (own_over (x := ⟨ka, kd, ki, y, kp⟩) hgb HBG5.out HMC.out HCM.out HSZ.out HL.out HCUR.out hpn)
  have HBS : Hid (Below w1.heap.size w1 (W5.setCells g (p * 5) (Lc.cells ⟨ka, kd, ki, y, kp⟩))) := Below.cells hgb _ _ HB5.out
  have hin : IntKind.i64.wrap (-(s - q)) = -(s - q) := IntWalk.i64_in _ (by omega)
  have hgl := HBG5.out.lt
  obtain ⟨_, y0⟩ : ∃ v, W5.cell? ⟨g, p * 5, none⟩ = some v := ⟨_, by rw [HBG5.out.cell]; exact Array.getElem?_eq_getElem (by omega)⟩
  obtain ⟨_, y1⟩ : ∃ v, W5.cell? ⟨g, p * 5 + 1, none⟩ = some v := ⟨_, by rw [HBG5.out.cell]; exact Array.getElem?_eq_getElem (by omega)⟩
  obtain ⟨_, y2⟩ : ∃ v, W5.cell? ⟨g, p * 5 + 2, none⟩ = some v := ⟨_, by rw [HBG5.out.cell]; exact Array.getElem?_eq_getElem (by omega)⟩
  obtain ⟨_, y3⟩ : ∃ v, W5.cell? ⟨g, p * 5 + 3, none⟩ = some v := ⟨_, by rw [HBG5.out.cell]; exact Array.getElem?_eq_getElem (by omega)⟩
  obtain ⟨_, y4⟩ : ∃ v, W5.cell? ⟨g, p * 5 + 4, none⟩ = some v := ⟨_, by rw [HBG5.out.cell]; exact Array.getElem?_eq_getElem (by omega)⟩
  have u0 := HBG5.out.frozen (p * 5)
  have u1 := HBG5.out.frozen (p * 5 + 1)
  have u2 := HBG5.out.frozen (p * 5 + 2)
  have u3 := HBG5.out.frozen (p * 5 + 3)
  have u4 := HBG5.out.frozen (p * 5 + 4)
  have HLL : Hid ((putQ l p y).length = n) := by rw [Hid, putQ_len, HL.out]
  rcases hqz with ⟨h0, hyy⟩ | ⟨h0, hyy⟩
  · rw [hyy] at hW5
    go_upto_region 15 with (fail)
    rw [← hW5]
    clear hW5 x0 x1 x2 x3 x4 z0 z1 z2 z3 z4 hxg
    obtain ⟨x0, x1, x2, x3, x4, z0, z1, z2, z3, z4, hxg⟩ := HBO5.out.five
    clear hgo hbo1 h0 hyy hin
    go_wp2
    go_ret3
    have ho := HOS.out
    rw [← HPQ.out] at ho
    rw [HE.out]
    exact c_ok HLL.out HMC.out HCM.out (own_mono ho HB1.out.size) (HB1.out.trans (HBS.out.mono HB1.out.size))
  · rw [hyy] at hW5
    go_upto_region 15 with (fail)
    rw [← hW5]
    clear hW5 x0 x1 x2 x3 x4 z0 z1 z2 z3 z4 hxg
    obtain ⟨x0, x1, x2, x3, x4, z0, z1, z2, z3, z4, hxg⟩ := HBO5.out.five
    clear hgo hbo1 h0 hyy hin
    go_wp2
    go_ret3
    have ho := HOS.out
    rw [← HPQ.out] at ho
    rw [HE.out]
    exact c_ok HLL.out HMC.out HCM.out (own_mono ho HB1.out.size) (HB1.out.trans (HBS.out.mono HB1.out.size))

end Go.Proofs.Ytiapbgbbeakoiaa.O
