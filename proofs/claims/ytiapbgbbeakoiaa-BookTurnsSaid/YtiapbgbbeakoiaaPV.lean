/- Walk: Add. By gen_c.py. -/
import Derived.Test.YtiapbgbbeakoiaaPQ
namespace Go.Proofs.Ytiapbgbbeakoiaa.P
open Go.RowKit

/-- What Add answers. -/
def addL (l : List Lc) (a i q : Int) : List Lc × Int :=
  if q < -1000000000 ∨ 1000000000 < q then ([], 36) else if q = 0 then (l, 0)
  else if thereB l ⟨a, i, 0⟩ = true then
    if (l.getD (place l ⟨a, i, 0⟩) default).qty + q < -1000000000 ∨ 1000000000 < (l.getD (place l ⟨a, i, 0⟩) default).qty + q then ([], 36)
    else if (l.getD (place l ⟨a, i, 0⟩) default).qty + q = 0 then (l.take (place l ⟨a, i, 0⟩) ++ l.drop (place l ⟨a, i, 0⟩ + 1), 0)
    else (putQ l (place l ⟨a, i, 0⟩) ((l.getD (place l ⟨a, i, 0⟩) default).qty + q), 0)
  else if 64 ≤ l.length then ([], 40) else (l.take (place l ⟨a, i, 0⟩) ++ ⟨a, i, q⟩ :: l.drop (place l ⟨a, i, 0⟩), 0)

set_option maxHeartbeats 8000000 in
set_option maxRecDepth 100000 in
theorem add_any (A : Option Addr) (n c : Nat) (l : List Lc) (a i q : Int) (w : World) (htl : tidyB l = true) (hn : n ≤ 1000000) (hr : Rd w w.heap.size 3 A n (lcs l)) :
    Calls Try.prog 11 #[.slice A n c, .int .i64 a, .int .i64 i, .int .i64 q] w (LOut w (addL l a i q)) := by
  have hl : l.length = n := by have := hr.1; rw [lcs_len] at this; omega
  obtain ⟨htl1, htl2⟩ := (tidy_iff l).1 htl
  have hso := sorted_of l htl1
  obtain ⟨r, hr'⟩ : ∃ r, r = addL l a i q := ⟨_, rfl⟩
  rw [← hr']
  have HR := Lib.hid hr'
  have HQ := Lib.hid htl2
  have HSO := Lib.hid hso
  have HRD := Lib.hid hr
  have HL := Lib.hid hl
  clear hr' htl htl1 htl2 hso hr hl
  go_enter Try.func11, Try.ntmps11
  go_wp2_with fail
  refine (cloneL_any A n c (lcs l) w (lcs_one l) (by omega) HRD.out).mono ?_
  rintro e w1 ⟨A1, c1, rfl, hc1, hm1, ho1, hb1⟩
  obtain ⟨W2, hW2⟩ : ∃ W2, W2 = w1.alloc (.cells #[.int .i64 a, .int .i64 i, .int .i64 q] 36) := ⟨_, rfl⟩
  obtain ⟨bx, hbx⟩ : ∃ bx, bx = w1.heap.size := ⟨_, rfl⟩
  have HBX : Hid (Bk W2 bx 36 #[.int .i64 a, .int .i64 i, .int .i64 q]) := by rw [hW2, hbx]; exact Bk.new _ _ _
  have HB2 : Hid (Below w.heap.size w W2) := by rw [hW2]; exact hb1.alloc hb1.size _
  have HO2 : Hid (W2.ownsRow w.heap.size 36 3 (.slice A1 n c1) n (lcs l)) := by rw [hW2]; exact ho1.alloc _
  have HNE : Hid (∀ p, A1 = some p → p.block < bx) := fun p hp => by rw [hbx]; exact (own_lt ho1 p hp).2
  have HC1 := Lib.hid hc1
  have HM1 := Lib.hid hm1
  clear hc1 hm1
  go_upto_region 3 with (fail)
  rw [← hW2, ← hbx]
  clear hW2 hbx ho1 hb1
  obtain ⟨x0, x1, x2, z0, z1, z2, hxg⟩ := HBX.out.three
  have hbsf := bsf_any A1 n c1 l ⟨a, i, q⟩ W2 HSO.out (by omega) (Rd.of_own HO2.out)
  obtain ⟨hpe, hte⟩ := place_same (l := l) (x := ⟨a, i, q⟩) (y := ⟨a, i, 0⟩) rfl rfl
  rw [hpe, hte] at hbsf
  have hp0 := HSO.out.place ⟨a, i, 0⟩
  have hth0 := fun h => there_lt (l := l) (x := ⟨a, i, 0⟩) h
  have hrr := HR.out
  unfold addL at hrr
  obtain ⟨p, hp⟩ : ∃ p, p = place l ⟨a, i, 0⟩ := ⟨_, rfl⟩
  obtain ⟨th, hth⟩ : ∃ th, th = thereB l ⟨a, i, 0⟩ := ⟨_, rfl⟩
  rw [← hp, ← hth] at hbsf hrr
  rw [← hp] at hp0 hth0
  rw [← hth] at hth0
  have hpm : p ≤ n := by have := hp0.1; have := HL.out; omega
  have hthp : th = true → p < n := fun ht => by have := hth0 ht; have := HL.out; omega
  have HRR := Lib.hid hrr
  have HBSF := Lib.hid hbsf
  clear hbsf hp hth hp0 hth0 hpe hte hrr
  unfold Lc.val at HBSF
  go_wp2_with fail
  refine HBSF.out.mono ?_
  rintro e w3 ⟨rfl, hb3⟩
  have HBX3 : Hid (Bk w3 bx 36 #[.int .i64 a, .int .i64 i, .int .i64 q]) := HBX.out.below hb3 HBX.out.lt
  have HO3 : Hid (w3.ownsRow w.heap.size 36 3 (.slice A1 n c1) n (lcs l)) := own_keep HO2.out fun p hp => hb3.block _ (own_lt HO2.out p hp).2
  have HB3 : Hid (Below w.heap.size w w3) := HB2.out.trans (hb3.mono HB2.out.size)
  clear x0 x1 x2 z0 z1 z2 hxg hb3
  obtain ⟨x0, x1, x2, z0, z1, z2, hxg⟩ := HBX3.out.three
  go_wp2_with fail
  refine (size_any q w3).mono ?_
  rintro e w4 ⟨rfl, rfl⟩
  by_cases hbad : q < -1000000000 ∨ 1000000000 < q
  · have e : r = ([], 36) := by rw [HRR.out, if_pos hbad]
    subst e
    have hs := sizeI_ge q
    obtain ⟨s, hs'⟩ : ∃ s, s = sizeI q := ⟨_, rfl⟩
    rw [← hs'] at hs ⊢
    clear hs'
    by_cases h1 : s > 1000000000
    · go_wp2
      go_ret2
      exact l_bad 36 HB3.out
    · have h2 : q < -1000000000 := by omega
      go_wp2
      go_ret2
      exact l_bad 36 HB3.out
  have hq0 : -1000000000 ≤ q := by omega
  have hq1 : q ≤ 1000000000 := by omega
  obtain ⟨s, hs'⟩ : ∃ s, s = sizeI q := ⟨_, rfl⟩
  have hs0 : s ≤ 1000000000 := by rw [hs', sizeI_of hq0 hq1]; split <;> omega
  rw [← hs']
  clear hs'
  have hs1 : ¬ (s > 1000000000) := by omega
  have hq2 : ¬ (q < -1000000000) := by omega
  have er := HRR.out
  rw [if_neg hbad] at er
  clear hbad HRR
  by_cases hz : q = 0
  · have e : r = (l, 0) := by rw [er, if_pos hz]
    subst e hz
    clear er
    go_wp2
    go_ret2
    exact l_ok HL.out HC1.out HM1.out HO3.out HB3.out
  have hz' : (q == 0) = false := by simpa using hz
  rw [if_neg hz] at er
  by_cases ht : th = true
  · subst ht
    rw [if_pos rfl] at er
    have hpn := hthp rfl
    have hql := HQ.out p (by rw [HL.out]; exact hpn)
    obtain ⟨a0, rfl, hab, c0, c1', c2⟩ := rd_loc (Rd.of_own HO3.out) (show p < l.length by rw [HL.out]; exact hpn)
    have hel : l[p]'(by rw [HL.out]; exact hpn) = l.getD p default := getD_eta l _
    rw [hel] at c0 c1' c2
    obtain ⟨h, hh⟩ : ∃ h, h = (l.getD p default).qty := ⟨_, rfl⟩
    rw [← hh] at er hql c2
    have hq5 : -1000000000 ≤ h ∧ h ≤ 1000000000 := by simpa [fitsQ] using hql
    obtain ⟨hq50, hq51⟩ := hq5
    have HER := Lib.hid er
    clear er hql hh hel c0 c1' hab
    obtain ⟨g, cur, rfl, hgb, hB, hmc, hcm, hsz, hcur⟩ := own_open HO3.out
    simp only [add0, Nat.zero_add] at c2
    have i1 : (0 : Int) ≤ (p : Int) := by omega
    have i2 : (p : Int) < (n : Int) := by omega
    have iw : IntKind.i64.wrap (h + q) = h + q := IntWalk.i64_in _ (by omega)
    by_cases hy0 : h + q < -1000000000
    · have e : r = ([], 36) := by rw [HER.out, if_pos (.inl hy0)]
      subst e
      go_wp2
      go_ret2
      exact l_bad 36 HB3.out
    by_cases hy1 : h + q > 1000000000
    · have e : r = ([], 36) := by rw [HER.out, if_pos (.inr hy1)]
      subst e
      go_wp2
      go_ret2
      exact l_bad 36 HB3.out
    have er := HER.out
    rw [if_neg (by omega)] at er
    clear HER
    by_cases hy2 : h + q = 0
    · obtain ⟨m', rfl⟩ : ∃ m', n = m' + 1 := ⟨n - 1, by omega⟩
      have e : r = (l.take p ++ l.drop (p + 1), 0) := by rw [er, if_pos hy2]
      subst e
      clear er
      have iw3 : IntKind.i64.wrap ((p : Int) + 1) = (p : Int) + 1 := IntWalk.i64_in _ (by omega)
      have HDEL := Lib.hid (delete_any w.heap.size g m' c1 p l cur w4 hgb hB hmc hcm hsz HL.out hcur hpn)
      have HLL : Hid ((l.take p ++ l.drop (p + 1)).length = m') := by rw [Hid, List.length_append, List.length_take, List.length_drop, HL.out]; omega
      have hmc' : m' ≤ c1 := by omega
      clear hB hsz hcur
      go_wp2_with fail
      refine HDEL.out.mono ?_
      rintro e w6 ⟨rfl, ho6, hb6⟩
      clear x0 x1 x2 z0 z1 z2 hxg c2
      go_wp2
      go_ret2
      exact l_ok HLL.out hmc' hcm ho6 (HB3.out.trans hb6)
    · have hy2' : (h + q == 0) = false := by simpa using hy2
      have e : r = (putQ l p (h + q), 0) := by rw [er, if_neg hy2]
      subst e
      clear er
      have HOS := Lib.hid (own_set hgb hB hmc hcm hsz HL.out hcur hpn (h + q))
      have HBS : Hid (Below w.heap.size w (w4.setCell ⟨g, p * 3 + 2, none⟩ (.int .i64 (h + q)))) := Below.setCell HB3.out (p := ⟨g, p * 3 + 2, none⟩) hgb _
      have HLL : Hid ((putQ l p (h + q)).length = n) := by rw [Hid, putQ_len, HL.out]
      have hgl := hB.lt
      have hlp : p * 3 + 2 < cur.size := by omega
      obtain ⟨_, y0⟩ : ∃ v, w4.cell? ⟨g, p * 3 + 2, none⟩ = some v := ⟨_, by rw [hB.cell]; exact Array.getElem?_eq_getElem hlp⟩
      have u0 := hB.frozen (p * 3 + 2)
      clear hB hsz hcur
      go_wp2
      go_ret2
      exact l_ok HLL.out hmc hcm HOS.out HBS.out
  have htf : th = false := by simpa using ht
  subst htf
  rw [if_neg (by simp), HL.out] at er
  by_cases h64 : 64 ≤ n
  · have e : r = ([], 40) := by rw [er, if_pos h64]
    subst e
    have i5 : (64 : Int) ≤ (n : Int) := by omega
    clear er
    go_wp2
    go_ret2
    exact l_bad 40 HB3.out
  have e : r = (l.take p ++ ⟨a, i, q⟩ :: l.drop p, 0) := by rw [er, if_neg h64]
  clear er
  obtain ⟨zs, hzs⟩ : ∃ zs, zs = l.take p ++ (⟨a, i, q⟩ : Lc) :: l.drop p := ⟨_, rfl⟩
  rw [← hzs] at e
  subst e
  have i5 : ¬ ((64 : Int) ≤ (n : Int)) := by omega
  obtain ⟨vb, hvb⟩ : ∃ vb, vb = w4.heap.size := ⟨_, rfl⟩
  obtain ⟨W6, hW6⟩ : ∃ W6, W6 = w4.alloc (.cells #[.int .i64 a, .int .i64 i, .int .i64 q] 36) := ⟨_, rfl⟩
  have hVB : Bk W6 vb 36 #[.int .i64 a, .int .i64 i, .int .i64 q] := by rw [hW6, hvb]; exact Bk.new _ _ _
  have hO6 : W6.ownsRow w.heap.size 36 3 (.slice A1 n c1) n (lcs l) := by rw [hW6]; exact HO3.out.alloc _
  have HB6 : Hid (Below w.heap.size w W6) := by rw [hW6]; exact HB3.out.alloc HB3.out.size _
  have HINS := Lib.hid (insert_any w.heap.size n c1 p vb A1 l ⟨a, i, q⟩ W6 hO6 HL.out (by omega) hpm HB6.out.size hVB (fun a' ha' hv' => by have := (own_lt HO3.out a' ha').2; omega))
  rw [← hzs] at HINS
  clear hO6 hVB hzs
  go_wp2_with fail
  rw [← hW6, ← hvb]
  refine HINS.out.mono ?_
  rintro e w7 ⟨A3, c3, rfl, h5, h6, ho7, hb7⟩
  clear x0 x1 x2 z0 z1 z2 hxg
  have hb27 : Below w.heap.size w w7 := HB6.out.trans hb7
  go_wp2
  go_ret2
  exact l_ok rfl h5 h6 ho7 hb27

end Go.Proofs.Ytiapbgbbeakoiaa.P
