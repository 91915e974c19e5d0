/- Walk: Cut. By gen_c.py. -/
import Derived.Test.YtiapbgbbeakoiaaOU
namespace Go.Proofs.Ytiapbgbbeakoiaa.O
open Go.RowKit

set_option maxHeartbeats 8000000 in
set_option maxRecDepth 100000 in
theorem cut_any (A : Option Addr) (n c : Nat) (l : List Lc) (a i q : Int) (w : World) (htl : tidyB l = true) (hn : n ≤ 1000000) (hr : Rd w w.heap.size 5 A n (lcs l)) :
    Calls Try.prog 18 #[.slice A n c, .int .i64 a, .int .i64 i, .int .i64 q] w (COut w (cutL l a i q)) := by
  have hl : l.length = n := by have := hr.1; rw [lcs_len] at this; omega
  obtain ⟨htl1, htl2⟩ := (tidy_iff l).1 htl
  have hso := sorted_of l htl1
  obtain ⟨r, hr'⟩ : ∃ r, r = cutL l a i q := ⟨_, rfl⟩
  rw [← hr']
  have HF := find_any A n c l a i w (by unfold maxLen; omega) hr
  rw [findL_sorted hso] at HF
  have hth0 := fun h => there_lt (l := l) (x := ⟨a, i, 0, 0, 0⟩) h
  have hrr := hr'
  unfold cutL at hrr
  obtain ⟨p, hp⟩ : ∃ p, p = place l ⟨a, i, 0, 0, 0⟩ := ⟨_, rfl⟩
  obtain ⟨th, hth⟩ : ∃ th, th = thereB l ⟨a, i, 0, 0, 0⟩ := ⟨_, rfl⟩
  rw [← hp, ← hth] at HF hrr
  rw [← hp, ← hth] at hth0
  have hthp : th = true → p < n := fun ht => by have := hth0 ht; omega
  have HRR := Lib.hid hrr
  have HQ := Lib.hid htl2
  have HRD := Lib.hid hr
  have HL := Lib.hid hl
  have HFF := Lib.hid HF
  clear hr' hso hr hl hp hth hth0 hrr HF htl htl1 htl2
  go_enter Try.func18, Try.ntmps18
  go_wp2_with fail
  refine HFF.out.mono ?_
  rintro e w1 ⟨rfl, hb1⟩
  cases th with
  | false =>
    have e : r = ([], 0, 34) := by rw [HRR.out, if_neg (by simp)]
    subst e
    rw [if_neg (by simp)]
    go_wp2
    go_ret3
    exact c_bad 34 hb1
  | true =>
  rw [if_pos rfl]
  have hpn := hthp rfl
  have er := HRR.out
  rw [if_pos rfl] at er
  obtain ⟨m', rfl⟩ : ∃ m', n = m' + 1 := ⟨n - 1, by omega⟩
  have i1 : (0 : Int) ≤ (p : Int) := by omega
  have i1' : ¬ ((p : Int) < 0) := by omega
  have i2 : (p : Int) < (m' : Int) + 1 := by omega
  have HB1 := Lib.hid hb1
  clear hb1
  have hql := HQ.out p (by rw [HL.out]; exact hpn)
  obtain ⟨a0, hA0, hab, c0, c1', c2', c2, c4⟩ := rd_loc (HRD.out.below HB1.out) (show p < l.length by rw [HL.out]; exact hpn)
  have hel : l[p]'(by rw [HL.out]; exact hpn) = l.getD p default := getD_eta l _
  rw [hel] at c2
  obtain ⟨qh, hh⟩ : ∃ qh, qh = (l.getD p default).qty := ⟨_, rfl⟩
  rw [← hh] at er hql c2
  subst hA0
  have hq5 : -1000000000 ≤ qh ∧ qh ≤ 1000000000 := by simpa [fitsQ] using hql
  obtain ⟨hq50, hq51⟩ := hq5
  have hsz : sizeI qh = absI qh := by rw [sizeI_of hq50 hq51]; rfl
  have HER := Lib.hid er
  clear er hql hh hel c0 c1' c2' c4 hab
  go_upto_region 5 with (fail)
  clear c2
  obtain ⟨s, hs⟩ : ∃ s, s = absI qh := ⟨_, rfl⟩
  have hs' : (qh < 0 → s = -qh) ∧ (¬ qh < 0 → s = qh) := by rw [hs]; unfold absI; exact ⟨fun h => if_pos h, fun h => if_neg h⟩
  rw [← hs] at HER hsz
  clear hs
  have HSZ := Lib.hid hsz
  clear hsz
  by_cases hq1 : q < 1
  · have e : r = ([], 0, 36) := by rw [HER.out, if_pos (.inl hq1)]
    subst e
    go_wp2
    go_ret3
    exact c_bad 36 HB1.out
  go_wp2_with fail
  refine (size_any qh w1).mono ?_
  rintro e w2 ⟨rfl, rfl⟩
  rw [HSZ.out]
  by_cases hq2 : q > s
  · have e : r = ([], 0, 36) := by rw [HER.out, if_pos (.inr hq2)]
    subst e
    go_wp2
    go_ret3
    exact c_bad 36 HB1.out
  have er := HER.out
  rw [if_neg (by omega)] at er
  have HES := Lib.hid er
  have HS' := Lib.hid hs'
  clear HER er hs'
  go_wp2_with fail
  refine (cloneL_any (some a0) (m' + 1) c (lcs l) w2 (lcs_one l) (by omega) ((HRD.out.below HB1.out).mono HB1.out.size)).mono ?_
  rintro e w3 ⟨A1, c1, rfl, hc1, hm1, ho1, hb3⟩
  have HO3 : Hid (w3.ownsRow w.heap.size 38 5 (.slice A1 (m' + 1) c1) (m' + 1) (lcs l)) := own_mono ho1 HB1.out.size
  have HB3 : Hid (Below w.heap.size w w3) := HB1.out.trans (hb3.mono HB1.out.size)
  obtain ⟨g0, rfl⟩ : ∃ g0, A1 = some g0 := by
    rcases A1 with _ | g0
    · rcases HO3.out.2 with ⟨_, h0⟩ | ⟨_, _, _, hv, _⟩
      · omega
      · cases hv
    · exact ⟨g0, rfl⟩
  obtain ⟨g, cur, rfl, hgb, hB, hmc, hcm, hsz, hcur⟩ := own_open HO3.out
  clear hc1 hm1 ho1 hb3
  have iw3 : IntKind.i64.wrap ((p : Int) + 1) = (p : Int) + 1 := IntWalk.i64_in _ (by omega)
  have er := HES.out
  have hs' := HS'.out
  have iwq : IntKind.i64.wrap (-q) = -q := IntWalk.i64_in _ (by omega)
  clear HES
  by_cases hsq : s = q
  · have e : r = (l.take p ++ l.drop (p + 1), 0, 0) := by rw [er, if_pos hsq]
    subst e
    clear er
    have HDEL := Lib.hid (delete_any w.heap.size g m' c1 p l cur w3 hgb hB hmc hcm hsz HL.out hcur hpn)
    have HLL : Hid ((l.take p ++ l.drop (p + 1)).length = m') := by rw [Hid, List.length_append, List.length_take, List.length_drop, HL.out]; omega
    have hmc' : m' ≤ c1 := by omega
    clear hB hsz hcur
    by_cases hh0 : qh < 0
    · have hhq : qh = -q := by have := hs'.1 (by omega); omega
      subst hhq
      go_wp2_with fail
      refine HDEL.out.mono ?_
      rintro e w6 ⟨rfl, ho6, hb6⟩
      go_wp2
      go_ret3
      exact c_ok HLL.out hmc' hcm ho6 (HB3.out.trans hb6)
    · have hhq : qh = q := by have := hs'.2 (by omega); omega
      subst hhq
      go_wp2_with fail
      refine HDEL.out.mono ?_
      rintro e w6 ⟨rfl, ho6, hb6⟩
      go_wp2
      go_ret3
      exact c_ok HLL.out hmc' hcm ho6 (HB3.out.trans hb6)
  obtain ⟨y, hy⟩ : ∃ y, y = if qh < 0 then qh + q else qh - q := ⟨_, rfl⟩
  have e : r = (putQ l p y, s - q, 0) := by rw [er, if_neg hsq, hy]
  subst e
  clear er
  have hy' : (qh < 0 → y = qh + q) ∧ (¬ qh < 0 → y = qh - q) := by rw [hy]; exact ⟨fun h => if_pos h, fun h => if_neg h⟩
  have hsy : sizeI y = s - q := by
    by_cases hh0 : qh < 0
    · have h1 := hs'.1 (by omega)
      have h2 := hy'.1 (by omega)
      rw [sizeI_of (by omega) (by omega)]
      split <;> omega
    · have h1 := hs'.2 (by omega)
      have h2 := hy'.2 (by omega)
      rw [sizeI_of (by omega) (by omega)]
      split <;> omega
  have HSY := Lib.hid hsy
  clear hy hsy
  have HOS := Lib.hid (own_set hgb hB hmc hcm hsz HL.out hcur hpn y)
  obtain ⟨W4, hW4⟩ : ∃ W4, W4 = w3.setCell ⟨g, p * 5 + 3, none⟩ (.int .i64 y) := ⟨_, rfl⟩
  have HBS : Hid (Below w.heap.size w W4) := by rw [hW4]; exact Below.setCell HB3.out (p := ⟨g, p * 5 + 3, none⟩) hgb _
  have HLL : Hid ((putQ l p y).length = m' + 1) := by rw [Hid, putQ_len, HL.out]
  have hgl := hB.lt
  have hlp : p * 5 + 3 < cur.size := by omega
  obtain ⟨_, y0⟩ : ∃ v, w3.cell? ⟨g, p * 5 + 3, none⟩ = some v := ⟨_, by rw [hB.cell]; exact Array.getElem?_eq_getElem hlp⟩
  have u0 := hB.frozen (p * 5 + 3)
  rw [← hW4] at HOS
  clear hB hsz hcur
  by_cases hh0 : qh < 0
  · have hy1 := hy'.1 (by omega)
    have hnq : (qh == -q) = false := by have := hs'.1 (by omega); simp; omega
    have hsb := hs'.1 (by omega)
    have iw5 : IntKind.i64.wrap (qh - -q) = qh + q := by rw [show qh - -q = qh + q by omega]; exact IntWalk.i64_in _ (by omega)
    have iw6 : IntKind.i64.wrap (qh + q) = qh + q := IntWalk.i64_in _ (by omega)
    subst hy1
    clear hs' hy' hsb
    go_upto_region 13 with (fail)
    rw [← hW4]
    clear hW4 y0 u0
    go_wp2_with fail
    refine (size_any _ W4).mono ?_
    rintro e w5 ⟨rfl, rfl⟩
    rw [HSY.out]
    go_wp2
    go_ret3
    exact c_ok HLL.out hmc hcm HOS.out HBS.out
  · have hy1 := hy'.2 (by omega)
    have hnq : (qh == q) = false := by have := hs'.2 (by omega); simp; omega
    have hsb := hs'.2 (by omega)
    have iw5 : IntKind.i64.wrap (qh - q) = qh - q := IntWalk.i64_in _ (by omega)
    subst hy1
    clear hs' hy' hsb
    go_upto_region 13 with (fail)
    rw [← hW4]
    clear hW4 y0 u0
    go_wp2_with fail
    refine (size_any _ W4).mono ?_
    rintro e w5 ⟨rfl, rfl⟩
    rw [HSY.out]
    go_wp2
    go_ret3
    exact c_ok HLL.out hmc hcm HOS.out HBS.out

end Go.Proofs.Ytiapbgbbeakoiaa.O
