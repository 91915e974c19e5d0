/- Walk: the document's Add. By gen_pr2.py. -/
import Derived.Test.YtiapbgbbeakoiaaPR
namespace Go.Proofs.Ytiapbgbbeakoiaa.P
open Go.RowKit

set_option maxHeartbeats 16000000 in
set_option maxRecDepth 100000 in
theorem radd_any (B : Option Addr) (m d : Nat) (l : List Lc) (a i q : Int) (w : World) (htl : tidyB l = true) (hm : m ≤ 1000000) (hrl : Rd w w.heap.size 3 B m (lcs l)) :
    Calls Try.prog 12 #[.slice B m d, .int .i64 a, .int .i64 i, .int .i64 q] w (LOut w (addL l a i q)) := by
  have hlm : l.length = m := by have := hrl.1; rw [lcs_len] at this; omega
  obtain ⟨htl1, htl2⟩ := (tidy_iff l).1 htl
  have hso := sorted_of l htl1
  obtain ⟨r, hr⟩ : ∃ r, r = addL l a i q := ⟨_, rfl⟩
  rw [← hr]
  unfold addL at hr
  obtain ⟨p, hp⟩ : ∃ p, p = place l ⟨a, i, 0⟩ := ⟨_, rfl⟩
  obtain ⟨th, hth⟩ : ∃ th, th = thereB l ⟨a, i, 0⟩ := ⟨_, rfl⟩
  rw [← hp, ← hth] at hr
  have hkey : ∀ j, j < m → ((l.getD j default).is a i = true ↔ (j = p ∧ th = true)) := fun j hj => by
    have := hso.key ⟨a, i, 0⟩ (j := j) (by omega)
    rwa [← hp, ← hth] at this
  have hless : ∀ j, j < p → (l.getD j default).acct < a ∨ ((l.getD j default).acct = a ∧ (l.getD j default).instr < i) := fun j hj => hso.less a i (by rw [← hp]; exact hj)
  have hmore : ∀ j, j < m → p ≤ j → (l.getD j default).is a i = false → a < (l.getD j default).acct ∨ ((l.getD j default).acct = a ∧ i < (l.getD j default).instr) := fun j hj hpj hn => hso.more a i (by omega) (by rw [← hp]; exact hpj) hn
  have hpm : p ≤ m := by have := (hso.place ⟨a, i, 0⟩).1; rw [← hp] at this; omega
  have hthp : th = true → p < m := fun ht => by
    have := there_lt (l := l) (x := ⟨a, i, 0⟩) (by rw [← hth]; exact ht)
    rw [← hp] at this
    omega
  have HR := Lib.hid hr
  have HQ := Lib.hid htl2
  have HRL := Lib.hid hrl
  have HLM := Lib.hid hlm
  have HKEY := Lib.hid hkey
  have HLESS := Lib.hid hless
  have HMORE := Lib.hid hmore
  have HTHP := Lib.hid hthp
  clear htl htl1 htl2 hrl hlm hso hr hp hth hkey hless hmore hthp
  go_enter Try.func12, Try.ntmps12
  go_wp2_with fail
  refine (rfits_any q w).mono ?_
  rintro e w' ⟨rfl, hw'⟩
  rw [hw']
  clear hw' w'
  by_cases hq : fitsQ q = true
  case neg =>
    have hq' : fitsQ q = false := by simpa using hq
    have hb : q < -1000000000 ∨ 1000000000 < q := by
      have := of_decide_eq_false (show decide (-1000000000 ≤ q ∧ q ≤ 1000000000) = false from hq')
      omega
    have e : r = ([], 36) := by rw [HR.out, if_pos hb]
    subst e
    rw [hq']
    clear hq hq' hb
    go_wp2
    go_ret2
    exact l_bad 36 (Below.refl _ _)
  have hqb : -1000000000 ≤ q ∧ q ≤ 1000000000 := of_decide_eq_true (show decide (-1000000000 ≤ q ∧ q ≤ 1000000000) = true from hq)
  rw [hq]
  clear hq
  have er := HR.out
  rw [if_neg (by omega)] at er
  have HER := Lib.hid er
  clear er HR
  obtain ⟨hqb0, hqb1⟩ := hqb
  obtain ⟨zz, hzz⟩ : ∃ zz, zz = (q == 0) := ⟨_, rfl⟩
  have HZZ := Lib.hid hzz
  obtain ⟨i0, hinf, hz0, hz1, hz2⟩ := info_parts info36
  go_upto_region 5 with (fail)
  rw [← hzz]
  clear hzz
  go_wp2
  go_loopw [24, 12] (fun vi vt wr => ∃ j : Nat, j ≤ m ∧ vi = .int .i64 j ∧ vt = .bool (decide (p < j) && th) ∧ Below w.heap.size w wr) (fun vi _ _ => m - (intOf vi).toNat)
  case atStart => exact ⟨0, Nat.zero_le _, rfl, by simp, Below.refl _ _⟩
  case round =>
    obtain ⟨j, hj, rfl, rfl, hbv⟩ := hrel
    rename World => V2
    have HBJ := Lib.hid hbv
    clear hbv
    by_cases hlt : j < m
    · have hjl : j < l.length := by have := HLM.out; omega
      obtain ⟨b0, hA, _, c0, c1, c2⟩ := rd_loc (HRL.out.below HBJ.out) hjl
      obtain ⟨⟨xa, xi, xq⟩, hx⟩ : ∃ x, x = l[j] := ⟨_, rfl⟩
      rw [← hx] at c0 c1 c2
      have HX : Hid (l.getD j default = ⟨xa, xi, xq⟩) := by rw [hx]; exact getD_lt hjl
      dsimp only at c0 c1 c2
      subst hA
      clear hx
      have j1 : (j : Int) < (m : Int) := by omega
      have j2 : (0 : Int) ≤ (j : Int) := by omega
      have j4 : IntKind.i64.wrap ((j : Int) + 1) = (j : Int) + 1 := IntWalk.i64_in _ (by omega)
      have hkj := HKEY.out j hlt
      rw [HX.out, show ((⟨xa, xi, xq⟩ : Lc).is a i = true) = (xa = a ∧ xi = i) from by simp [Lc.is]] at hkj
      by_cases hxk : xa = a ∧ xi = i
      · obtain ⟨hj1, hj2⟩ := hkj.1 hxk
        obtain ⟨rfl, rfl⟩ := hxk
        clear hkj
        have HJ1 := Lib.hid hj1
        have HJ2 := Lib.hid hj2
        clear hj1 hj2
        go_wp2
        refine ⟨⟨j + 1, by omega, by push_cast; rfl, ?_, HBJ.out.alloc HBJ.out.size _⟩, by simp only [intOf]; omega⟩
        rw [HJ2.out, decide_eq_true (by have := HJ1.out; omega)]
        rfl
      · have hne : (decide (p < j + 1) && th) = (decide (p < j) && th) := by
          by_cases hpj : j = p
          · by_cases ht : th = true
            · exact absurd (hkj.2 ⟨hpj, ht⟩) hxk
            · have ht' : th = false := by simpa using ht
              rw [ht', Bool.and_false, Bool.and_false]
          · congr 1
            exact decide_eq_decide.2 (by omega)
        have HNE := Lib.hid hne
        clear hkj hne
        by_cases h1 : xa = a
        · have h2 : ¬ (xi = i) := fun h => hxk ⟨h1, h⟩
          have h3 : (xi == i) = false := by simpa using h2
          subst h1
          clear hxk
          go_wp2
          exact ⟨⟨j + 1, by omega, by push_cast; rfl, by rw [HNE.out], HBJ.out.alloc HBJ.out.size _⟩, by simp only [intOf]; omega⟩
        · have h3 : (xa == a) = false := by simpa using h1
          clear hxk
          go_wp2
          exact ⟨⟨j + 1, by omega, by push_cast; rfl, by rw [HNE.out], HBJ.out.alloc HBJ.out.size _⟩, by simp only [intOf]; omega⟩
    have j5 : ¬ ((j : Int) < (m : Int)) := by omega
    have hjm : j = m := by omega
    have hjt : (decide (p < j) && th) = th := by
      cases hth : th with
      | false => rw [Bool.and_false]
      | true => rw [decide_eq_true (by have := HTHP.out hth; omega)]; rfl
    rw [hjt]
    clear hjt hlt hj
    have hcase : zz = true ∨ (zz = false ∧ th = true) ∨ (zz = false ∧ th = false ∧ 64 ≤ m) ∨ (zz = false ∧ th = false ∧ ¬ 64 ≤ m) := by
      cases zz <;> cases th <;> simp <;> omega
    rcases hcase with rfl | ⟨rfl, rfl⟩ | ⟨rfl, rfl, h64⟩ | ⟨rfl, rfl, h64⟩
    · go_wp2
      go_loopw [52, 10, 11] (fun vi vo vl wr => ∃ k : Nat, k ≤ m ∧ vi = .int .i64 k ∧ BuildAt w (outL l m false ([] : List Lc) k) true vo vl wr) (fun vi _ _ _ => m - (intOf vi).toNat)
      case atStart => exact ⟨0, Nat.zero_le _, rfl, none, 0, by rw [outL_zero]; rfl, rfl, by rw [outL_zero]; exact World.ownsRow_nil _ _ _ _, HBJ.out⟩
      case round =>
        obtain ⟨k, hk, rfl, A0, c0', rfl, rfl, hown, hbv⟩ := hrel
        rename World => V4
        have hol : (outL l m false ([] : List Lc) k).length ≤ 1000001 := by have := @outL_len l ([] : List Lc) m k false (by simp) (by have := HLM.out; omega); omega
        obtain ⟨out, hout⟩ : ∃ out, out = outL l m false ([] : List Lc) k := ⟨_, rfl⟩
        rw [← hout] at hown hol
        rw [← hout]
        have HOUT := Lib.hid hout
        have HO4 := Lib.hid hown
        have HB4 := Lib.hid hbv
        clear hown hbv hout
        by_cases hlt : k < m
        · have hjl : k < l.length := by have := HLM.out; omega
          obtain ⟨b0, hA, _, c0, c1x, c2⟩ := rd_loc (HRL.out.below HB4.out) hjl
          obtain ⟨y, hy⟩ : ∃ y, y = l[k] := ⟨_, rfl⟩
          rw [← hy] at c0 c1x c2
          have HY : Hid (l.getD k default = y) := by rw [hy]; exact getD_lt hjl
          clear hy
          obtain ⟨xa, xi, xq⟩ := y
          dsimp only at c0 c1x c2
          subst hA
          have j1 : (k : Int) < (m : Int) := by omega
          have j2 : (0 : Int) ≤ (k : Int) := by omega
          have j4 : IntKind.i64.wrap ((k : Int) + 1) = (k : Int) + 1 := IntWalk.i64_in _ (by omega)
          obtain ⟨V3, hV3⟩ : ∃ V3, V3 = V4.alloc (.cells #[.int .i64 xa, .int .i64 xi, .int .i64 xq] 36) := ⟨_, rfl⟩
          obtain ⟨bY, hbY⟩ : ∃ bY, bY = V4.heap.size := ⟨_, rfl⟩
          have HBY : Hid (Bk V3 bY 36 #[.int .i64 xa, .int .i64 xi, .int .i64 xq]) := by rw [hV3, hbY]; exact Bk.new _ _ _
          have HO3 : Hid (V3.ownsRow w.heap.size 36 3 (.slice A0 out.length c0') out.length (lcs out)) := by rw [hV3]; exact HO4.out.alloc _
          have HB3 : Hid (Below w.heap.size w V3) := by rw [hV3]; exact HB4.out.alloc HB4.out.size _
          have hV3s : w.heap.size ≤ V3.heap.size := HB3.out.size
          have HNEB : Hid (some bY ≠ (Value.slice A0 out.length c0').ownBlock) := by rw [hbY]; exact own_ne_new HO4.out
          have hry : Rd (V3.alloc (.cells #[.int .i64 xa, .int .i64 xi, .int .i64 xq] 36)) (V3.heap.size + 1) 3 (some ⟨V3.heap.size, 0, none⟩) 1 (Lc.cells ⟨xa, xi, xq⟩) := rd_one (x := ⟨xa, xi, xq⟩) (Bk.new _ _ _)
          have hoy := HY.out
          go_upto_region 17 with (fail)
          rw [← hV3, ← hbY]
          clear hV3 hbY c0 c1x c2
          obtain ⟨x0, x1, x2, z0, z1, z2, hxg⟩ := HBY.out.three
          have e1 := (show outL l m false ([] : List Lc) (k + 1) = out ++ [⟨xa, xi, xq⟩] by rw [outL_low hjl (by omega), ← HOUT.out, HY.out])
          have HE1 := Lib.hid e1
          clear e1
          go_upto_region 27 with (at_builtin; go_must (refine wpList_append_rd _ rfl (.tmp 122) (.tmp 124) _ rfl w.heap.size 36 i0 _ 3 24 Try.underlying22 hinf hz0 hz1 hz2 rfl (by omega) _ out.length (lcs out) rfl (HO3.out.alloc _) _ _ 1 1 _ rfl hry (cells_one _) (by unfold maxLen; omega) (by omega) (by simp; omega) ?_); intro A1 c1' w3 h1 h2 hown1 hg1 hat1)
          go_wp2
          exact ⟨⟨k + 1, by omega, by push_cast; rfl, BuildAt.app HO3.out HB3.out hown1 hg1 HE1.out⟩, by simp only [intOf]; omega⟩
        · have j5 : ¬ ((k : Int) < (m : Int)) := by omega
          have hkm : k = m := by omega
          have e : r = (out, 0) := by rw [HER.out, if_pos (by simpa using HZZ.out), HOUT.out, hkm, ← HLM.out, outL_all (Nat.le_refl _)]
          subst e
          obtain ⟨_, _, hcc, h5, h6⟩ := own_form HO4.out
          injection hcc with hA2 _ hcc
          subst hA2 hcc
          go_wp2
          go_ret2
          exact l_ok rfl h5 h6 HO4.out HB4.out
    · have hqz : ¬ q = 0 := by have := HZZ.out; simpa using this
      have hpn := HTHP.out rfl
      have er2 := HER.out
      rw [if_neg hqz, if_pos rfl] at er2
      have hql := HQ.out p (by rw [HLM.out]; exact hpn)
      obtain ⟨h, hh⟩ : ∃ h, h = (l.getD p default).qty := ⟨_, rfl⟩
      rw [← hh] at er2 hql
      have hhb : -1000000000 ≤ h ∧ h ≤ 1000000000 := of_decide_eq_true hql
      obtain ⟨hhb0, hhb1⟩ := hhb
      have HER2 := Lib.hid er2
      have HHH := Lib.hid hh
      clear er2 hql hh HER
      have iw : IntKind.i64.wrap (h + q) = h + q := IntWalk.i64_in _ (by omega)
      obtain ⟨mid, hmid⟩ : ∃ mid : List Lc, mid = if h + q = 0 then [] else [⟨a, i, h + q⟩] := ⟨_, rfl⟩
      have HMID := Lib.hid hmid
      have HML : Hid (mid.length ≤ 1) := by rw [Hid, hmid]; split <;> simp
      clear hmid
      go_wp2
      go_loopw [52, 10, 11] (fun vi vo vl wr => ∃ k : Nat, k ≤ m ∧ vi = .int .i64 k ∧ (p < k → ¬ (h + q < -1000000000 ∨ 1000000000 < h + q)) ∧ BuildAt w (outL l p true mid k) (decide (p < k)) vo vl wr) (fun vi _ _ _ => m - (intOf vi).toNat)
      case atStart => exact ⟨0, Nat.zero_le _, rfl, (fun h0 => absurd h0 (by omega)), none, 0, by rw [outL_zero]; rfl, by simp, by rw [outL_zero]; exact World.ownsRow_nil _ _ _ _, HBJ.out⟩
      case round =>
        obtain ⟨k, hk, rfl, hnb, A0, c0', rfl, rfl, hown, hbv⟩ := hrel
        rename World => V4
        have hol : (outL l p true mid k).length ≤ 1000001 := by have := @outL_len l mid p k true (HML.out) (by have := HLM.out; omega); omega
        obtain ⟨out, hout⟩ : ∃ out, out = outL l p true mid k := ⟨_, rfl⟩
        rw [← hout] at hown hol
        rw [← hout]
        have HOUT := Lib.hid hout
        have HO4 := Lib.hid hown
        have HB4 := Lib.hid hbv
        have HNB := Lib.hid hnb
        clear hown hbv hout hnb
        by_cases hlt : k < m
        · have hjl : k < l.length := by have := HLM.out; omega
          obtain ⟨b0, hA, _, c0, c1x, c2⟩ := rd_loc (HRL.out.below HB4.out) hjl
          obtain ⟨y, hy⟩ : ∃ y, y = l[k] := ⟨_, rfl⟩
          rw [← hy] at c0 c1x c2
          have HY : Hid (l.getD k default = y) := by rw [hy]; exact getD_lt hjl
          clear hy
          obtain ⟨xa, xi, xq⟩ := y
          dsimp only at c0 c1x c2
          subst hA
          have j1 : (k : Int) < (m : Int) := by omega
          have j2 : (0 : Int) ≤ (k : Int) := by omega
          have j4 : IntKind.i64.wrap ((k : Int) + 1) = (k : Int) + 1 := IntWalk.i64_in _ (by omega)
          obtain ⟨V3, hV3⟩ : ∃ V3, V3 = V4.alloc (.cells #[.int .i64 xa, .int .i64 xi, .int .i64 xq] 36) := ⟨_, rfl⟩
          obtain ⟨bY, hbY⟩ : ∃ bY, bY = V4.heap.size := ⟨_, rfl⟩
          have HBY : Hid (Bk V3 bY 36 #[.int .i64 xa, .int .i64 xi, .int .i64 xq]) := by rw [hV3, hbY]; exact Bk.new _ _ _
          have HO3 : Hid (V3.ownsRow w.heap.size 36 3 (.slice A0 out.length c0') out.length (lcs out)) := by rw [hV3]; exact HO4.out.alloc _
          have HB3 : Hid (Below w.heap.size w V3) := by rw [hV3]; exact HB4.out.alloc HB4.out.size _
          have hV3s : w.heap.size ≤ V3.heap.size := HB3.out.size
          have HNEB : Hid (some bY ≠ (Value.slice A0 out.length c0').ownBlock) := by rw [hbY]; exact own_ne_new HO4.out
          have hry : Rd (V3.alloc (.cells #[.int .i64 xa, .int .i64 xi, .int .i64 xq] 36)) (V3.heap.size + 1) 3 (some ⟨V3.heap.size, 0, none⟩) 1 (Lc.cells ⟨xa, xi, xq⟩) := rd_one (x := ⟨xa, xi, xq⟩) (Bk.new _ _ _)
          have hoy := HY.out
          go_upto_region 17 with (fail)
          rw [← hV3, ← hbY]
          clear hV3 hbY c0 c1x c2
          obtain ⟨x0, x1, x2, z0, z1, z2, hxg⟩ := HBY.out.three
          have hkj := HKEY.out k hlt
          rw [HY.out, show ((⟨xa, xi, xq⟩ : Lc).is a i = true) = (xa = a ∧ xi = i) from by simp [Lc.is]] at hkj
          by_cases hkp : k < p
          · have hls := HLESS.out k hkp
            rw [HY.out] at hls
            dsimp only at hls
            have hd : (decide (p < k)) = false := decide_eq_false (by omega)
            have hd2 : (decide (p < k + 1)) = false := decide_eq_false (by omega)
            rw [hd]
            have HD2 := Lib.hid hd2
            clear hd hd2 hkj hoy
            by_cases hxa : xa = a
            · have g1 : xi < i := by omega
              have g3 : ¬ xi = i := by omega
              have g2 : (xi == i) = false := by simpa using g3
              subst hxa
              clear hls g3
              have e1 := (show outL l p true mid (k + 1) = out ++ [⟨xa, xi, xq⟩] by rw [outL_low hjl (by omega), ← HOUT.out, HY.out])
              have HE1 := Lib.hid e1
              clear e1
              go_upto_region 27 with (at_builtin; go_must (refine wpList_append_rd _ rfl (.tmp 122) (.tmp 124) _ rfl w.heap.size 36 i0 _ 3 24 Try.underlying22 hinf hz0 hz1 hz2 rfl (by omega) _ out.length (lcs out) rfl (HO3.out.alloc _) _ _ 1 1 _ rfl hry (cells_one _) (by unfold maxLen; omega) (by omega) (by simp; omega) ?_); intro A1 c1' w3 h1 h2 hown1 hg1 hat1)
              go_wp2
              refine ⟨⟨k + 1, by omega, by push_cast; rfl, (fun h0 => absurd h0 (by omega)), ?_⟩, by simp only [intOf]; omega⟩
              rw [HD2.out]
              exact BuildAt.app HO3.out HB3.out hown1 hg1 HE1.out
            · have g2 : (xa == a) = false := by simpa using hxa
              clear hls
              have e1 := (show outL l p true mid (k + 1) = out ++ [⟨xa, xi, xq⟩] by rw [outL_low hjl (by omega), ← HOUT.out, HY.out])
              have HE1 := Lib.hid e1
              clear e1
              go_upto_region 27 with (at_builtin; go_must (refine wpList_append_rd _ rfl (.tmp 122) (.tmp 124) _ rfl w.heap.size 36 i0 _ 3 24 Try.underlying22 hinf hz0 hz1 hz2 rfl (by omega) _ out.length (lcs out) rfl (HO3.out.alloc _) _ _ 1 1 _ rfl hry (cells_one _) (by unfold maxLen; omega) (by omega) (by simp; omega) ?_); intro A1 c1' w3 h1 h2 hown1 hg1 hat1)
              go_wp2
              refine ⟨⟨k + 1, by omega, by push_cast; rfl, (fun h0 => absurd h0 (by omega)), ?_⟩, by simp only [intOf]; omega⟩
              rw [HD2.out]
              exact BuildAt.app HO3.out HB3.out hown1 hg1 HE1.out
          by_cases hkp2 : k = p
          · have hkey := hkj.2 ⟨hkp2, by simp⟩
            obtain ⟨rfl, rfl⟩ := hkey
            have hxq : xq = h := by rw [HHH.out, ← hkp2, HY.out]
            subst hxq
            have hd : (decide (p < k)) = false := decide_eq_false (by omega)
            rw [hd]
            have HD2 : Hid ((decide (p < k + 1)) = true) := decide_eq_true (by omega)
            have HKP := Lib.hid hkp2
            clear hd hkj hoy hkp2 hkp
            go_wp2_with fail
            refine (rfits_any (xq + q) V3).mono ?_
            rintro e V5 ⟨rfl, hV5⟩
            rw [hV5]
            clear hV5 V5
            by_cases hfs : fitsQ (xq + q) = true
            case neg =>
              have hfs' : fitsQ (xq + q) = false := by simpa using hfs
              have hb : xq + q < -1000000000 ∨ 1000000000 < xq + q := by
                have := of_decide_eq_false (show decide (-1000000000 ≤ xq + q ∧ xq + q ≤ 1000000000) = false from hfs')
                omega
              have e : r = ([], 36) := by rw [HER2.out, if_pos hb]
              subst e
              rw [hfs']
              clear hfs hfs' hb
              go_wp2
              go_ret2
              exact l_bad 36 HB3.out
            have hfb : -1000000000 ≤ xq + q ∧ xq + q ≤ 1000000000 := of_decide_eq_true (show decide (-1000000000 ≤ xq + q ∧ xq + q ≤ 1000000000) = true from hfs)
            rw [hfs]
            have HFB := Lib.hid hfb
            clear hfs hfb
            have e0 : outL l p true mid (k + 1) = out ++ mid := by rw [HOUT.out, HKP.out]; exact outL_at rfl (by rw [← HKP.out]; exact hjl)
            by_cases hs0 : xq + q = 0
            · have e1 : outL l p true mid (k + 1) = out := by rw [e0, HMID.out, if_pos hs0, List.append_nil]
              have HE1 := Lib.hid e1
              clear e0 e1
              have hs1 : (xq + q != 0) = false := by simpa using hs0
              have hs2 : (xq + q == 0) = true := by simpa using hs0
              go_wp2
              refine ⟨⟨k + 1, by omega, by push_cast; rfl, (fun _ => by have := HFB.out; omega), A0, c0', ?_, ?_, ?_, HB3.out⟩, by simp only [intOf]; omega⟩
              · rw [HE1.out]
              · rw [HD2.out]
              · rw [HE1.out]; exact HO3.out
            · have e1 : outL l p true mid (k + 1) = out ++ [⟨xa, xi, xq + q⟩] := by rw [e0, HMID.out, if_neg hs0]
              have HE1 := Lib.hid e1
              clear e0 e1
              have hs1 : (xq + q != 0) = true := by simpa using hs0
              have hs2 : (xq + q == 0) = false := by simpa using hs0
              have hrx : Rd (V3.alloc (.cells #[.int .i64 xa, .int .i64 xi, .int .i64 (xq + q)] 36)) (V3.heap.size + 1) 3 (some ⟨V3.heap.size, 0, none⟩) 1 (Lc.cells ⟨xa, xi, xq + q⟩) := rd_one (x := ⟨xa, xi, xq + q⟩) (Bk.new _ _ _)
              clear hs0
              go_upto_region 27 with (at_builtin; go_must (refine wpList_append_rd _ rfl (.tmp 81) (.tmp 89) _ rfl w.heap.size 36 i0 _ 3 24 Try.underlying22 hinf hz0 hz1 hz2 rfl (by omega) _ out.length (lcs out) rfl (HO3.out.alloc _) _ _ 1 1 _ rfl hrx (cells_one _) (by unfold maxLen; omega) (by omega) (by simp; omega) ?_); intro A1 c1' w3 h1 h2 hown1 hg1 hat1)
              go_wp2
              refine ⟨⟨k + 1, by omega, by push_cast; rfl, (fun _ => by have := HFB.out; omega), ?_⟩, by simp only [intOf]; omega⟩
              rw [HD2.out]
              exact BuildAt.app HO3.out HB3.out hown1 hg1 HE1.out
          · have hd : (decide (p < k)) = true := decide_eq_true (by omega)
            rw [hd]
            have HD2 : Hid ((decide (p < k + 1)) = true) := decide_eq_true (by omega)
            clear hd hkj hoy
            have e1 := (show outL l p true mid (k + 1) = out ++ [⟨xa, xi, xq⟩] by rw [outL_high hjl (by omega), ← HOUT.out, HY.out])
            have HE1 := Lib.hid e1
            clear e1
            go_upto_region 27 with (at_builtin; go_must (refine wpList_append_rd _ rfl (.tmp 122) (.tmp 124) _ rfl w.heap.size 36 i0 _ 3 24 Try.underlying22 hinf hz0 hz1 hz2 rfl (by omega) _ out.length (lcs out) rfl (HO3.out.alloc _) _ _ 1 1 _ rfl hry (cells_one _) (by unfold maxLen; omega) (by omega) (by simp; omega) ?_); intro A1 c1' w3 h1 h2 hown1 hg1 hat1)
            go_wp2
            refine ⟨⟨k + 1, by omega, by push_cast; rfl, (fun _ => HNB.out (by omega)), ?_⟩, by simp only [intOf]; omega⟩
            rw [HD2.out]
            exact BuildAt.app HO3.out HB3.out hown1 hg1 HE1.out
        · have j5 : ¬ ((k : Int) < (m : Int)) := by omega
          have hkm : k = m := by omega
          have hb : ¬ (h + q < -1000000000 ∨ 1000000000 < h + q) := HNB.out (by omega)
          have e : r = (out, 0) := by
            rw [HER2.out, if_neg hb, HOUT.out, hkm, ← HLM.out, outL_there (by rw [HLM.out]; exact hpn), HMID.out]
            by_cases hs0 : h + q = 0
            · rw [if_pos hs0, if_pos hs0, List.nil_append]
            · rw [if_neg hs0, if_neg hs0]
              exact congrArg (fun z => (z, (0 : Int))) (putQ_split (by rw [HLM.out]; exact hpn) ((HKEY.out p hpn).2 ⟨rfl, by simp⟩) (h + q))
          subst e
          obtain ⟨_, _, hcc, h5, h6⟩ := own_form HO4.out
          injection hcc with hA2 _ hcc
          subst hA2 hcc
          have hd : (decide (p < k)) = true := decide_eq_true (by omega)
          rw [hd]
          go_wp2
          go_ret2
          exact l_ok rfl h5 h6 HO4.out HB4.out
    · have e : r = ([], 40) := by
        have hqz : ¬ q = 0 := by have := HZZ.out; simpa using this
        rw [HER.out, if_neg hqz, if_neg (by simp), if_pos (by rw [HLM.out]; exact h64)]
      subst e
      have j6 : (64 : Int) ≤ (m : Int) := by omega
      go_wp2
      go_ret2
      exact l_bad 40 HBJ.out
    · have hqz : ¬ q = 0 := by have := HZZ.out; simpa using this
      have j6 : ¬ ((64 : Int) ≤ (m : Int)) := by omega
      have er2 := HER.out
      rw [if_neg hqz, if_neg (by simp), if_neg (by rw [HLM.out]; exact h64)] at er2
      have HER2 := Lib.hid er2
      clear er2 HER
      go_wp2
      go_loopw [52, 10, 11] (fun vi vo vl wr => ∃ k : Nat, k ≤ m ∧ vi = .int .i64 k ∧ BuildAt w (outL l p false [(⟨a, i, q⟩ : Lc)] k) (decide (p < k)) vo vl wr) (fun vi _ _ _ => m - (intOf vi).toNat)
      case atStart => exact ⟨0, Nat.zero_le _, rfl, none, 0, by rw [outL_zero]; rfl, by simp, by rw [outL_zero]; exact World.ownsRow_nil _ _ _ _, HBJ.out⟩
      case round =>
        obtain ⟨k, hk, rfl, A0, c0', rfl, rfl, hown, hbv⟩ := hrel
        rename World => V4
        have hol : (outL l p false [(⟨a, i, q⟩ : Lc)] k).length ≤ 1000001 := by have := @outL_len l [(⟨a, i, q⟩ : Lc)] p k false (by simp) (by have := HLM.out; omega); omega
        obtain ⟨out, hout⟩ : ∃ out, out = outL l p false [(⟨a, i, q⟩ : Lc)] k := ⟨_, rfl⟩
        rw [← hout] at hown hol
        rw [← hout]
        have HOUT := Lib.hid hout
        have HO4 := Lib.hid hown
        have HB4 := Lib.hid hbv
        clear hown hbv hout
        have hrx : ∀ V : World, Rd (V.alloc (.cells #[.int .i64 a, .int .i64 i, .int .i64 q] 36)) (V.heap.size + 1) 3 (some ⟨V.heap.size, 0, none⟩) 1 (Lc.cells ⟨a, i, q⟩) := fun V => rd_one (x := ⟨a, i, q⟩) (Bk.new _ _ _)
        by_cases hlt : k < m
        · have hjl : k < l.length := by have := HLM.out; omega
          obtain ⟨b0, hA, _, c0, c1x, c2⟩ := rd_loc (HRL.out.below HB4.out) hjl
          obtain ⟨y, hy⟩ : ∃ y, y = l[k] := ⟨_, rfl⟩
          rw [← hy] at c0 c1x c2
          have HY : Hid (l.getD k default = y) := by rw [hy]; exact getD_lt hjl
          clear hy
          obtain ⟨xa, xi, xq⟩ := y
          dsimp only at c0 c1x c2
          subst hA
          have j1 : (k : Int) < (m : Int) := by omega
          have j2 : (0 : Int) ≤ (k : Int) := by omega
          have j4 : IntKind.i64.wrap ((k : Int) + 1) = (k : Int) + 1 := IntWalk.i64_in _ (by omega)
          obtain ⟨V3, hV3⟩ : ∃ V3, V3 = V4.alloc (.cells #[.int .i64 xa, .int .i64 xi, .int .i64 xq] 36) := ⟨_, rfl⟩
          obtain ⟨bY, hbY⟩ : ∃ bY, bY = V4.heap.size := ⟨_, rfl⟩
          have HBY : Hid (Bk V3 bY 36 #[.int .i64 xa, .int .i64 xi, .int .i64 xq]) := by rw [hV3, hbY]; exact Bk.new _ _ _
          have HO3 : Hid (V3.ownsRow w.heap.size 36 3 (.slice A0 out.length c0') out.length (lcs out)) := by rw [hV3]; exact HO4.out.alloc _
          have HB3 : Hid (Below w.heap.size w V3) := by rw [hV3]; exact HB4.out.alloc HB4.out.size _
          have hV3s : w.heap.size ≤ V3.heap.size := HB3.out.size
          have HNEB : Hid (some bY ≠ (Value.slice A0 out.length c0').ownBlock) := by rw [hbY]; exact own_ne_new HO4.out
          have hry : Rd (V3.alloc (.cells #[.int .i64 xa, .int .i64 xi, .int .i64 xq] 36)) (V3.heap.size + 1) 3 (some ⟨V3.heap.size, 0, none⟩) 1 (Lc.cells ⟨xa, xi, xq⟩) := rd_one (x := ⟨xa, xi, xq⟩) (Bk.new _ _ _)
          have hoy := HY.out
          go_upto_region 17 with (fail)
          rw [← hV3, ← hbY]
          clear hV3 hbY c0 c1x c2
          obtain ⟨x0, x1, x2, z0, z1, z2, hxg⟩ := HBY.out.three
          have hkj := HKEY.out k hlt
          rw [HY.out, show ((⟨xa, xi, xq⟩ : Lc).is a i = true) = (xa = a ∧ xi = i) from by simp [Lc.is]] at hkj
          have hnk : ¬ (xa = a ∧ xi = i) := fun h => by have := (hkj.1 h).2; cases this
          by_cases hkp : k < p
          · have hls := HLESS.out k hkp
            rw [HY.out] at hls
            dsimp only at hls
            have hd : (decide (p < k)) = false := decide_eq_false (by omega)
            have hd2 : (decide (p < k + 1)) = false := decide_eq_false (by omega)
            rw [hd]
            have HD2 := Lib.hid hd2
            clear hd hd2 hkj hoy hnk
            by_cases hxa : xa = a
            · have g1 : ¬ (i < xi) := by omega
              have g3 : ¬ xi = i := by omega
              have g2 : (xi == i) = false := by simpa using g3
              subst hxa
              clear hls g3
              have e1 := (show outL l p false [(⟨xa, i, q⟩ : Lc)] (k + 1) = out ++ [⟨xa, xi, xq⟩] by rw [outL_low hjl (by omega), ← HOUT.out, HY.out])
              have HE1 := Lib.hid e1
              clear e1
              go_upto_region 27 with (at_builtin; go_must (refine wpList_append_rd _ rfl (.tmp 122) (.tmp 124) _ rfl w.heap.size 36 i0 _ 3 24 Try.underlying22 hinf hz0 hz1 hz2 rfl (by omega) _ out.length (lcs out) rfl (HO3.out.alloc _) _ _ 1 1 _ rfl hry (cells_one _) (by unfold maxLen; omega) (by omega) (by simp; omega) ?_); intro A1 c1' w3 h1 h2 hown1 hg1 hat1)
              go_wp2
              refine ⟨⟨k + 1, by omega, by push_cast; rfl, ?_⟩, by simp only [intOf]; omega⟩
              rw [HD2.out]
              exact BuildAt.app HO3.out HB3.out hown1 hg1 HE1.out
            · have g2 : (xa == a) = false := by simpa using hxa
              have g1 : ¬ (a < xa) := by omega
              clear hls
              have e1 := (show outL l p false [(⟨a, i, q⟩ : Lc)] (k + 1) = out ++ [⟨xa, xi, xq⟩] by rw [outL_low hjl (by omega), ← HOUT.out, HY.out])
              have HE1 := Lib.hid e1
              clear e1
              go_upto_region 27 with (at_builtin; go_must (refine wpList_append_rd _ rfl (.tmp 122) (.tmp 124) _ rfl w.heap.size 36 i0 _ 3 24 Try.underlying22 hinf hz0 hz1 hz2 rfl (by omega) _ out.length (lcs out) rfl (HO3.out.alloc _) _ _ 1 1 _ rfl hry (cells_one _) (by unfold maxLen; omega) (by omega) (by simp; omega) ?_); intro A1 c1' w3 h1 h2 hown1 hg1 hat1)
              go_wp2
              refine ⟨⟨k + 1, by omega, by push_cast; rfl, ?_⟩, by simp only [intOf]; omega⟩
              rw [HD2.out]
              exact BuildAt.app HO3.out HB3.out hown1 hg1 HE1.out
          by_cases hkp2 : k = p
          · have hmr := HMORE.out k hlt (by omega) (by rw [HY.out]; exact decide_eq_false hnk)
            rw [HY.out] at hmr
            dsimp only at hmr
            have hd : (decide (p < k)) = false := decide_eq_false (by omega)
            rw [hd]
            have HD2 : Hid ((decide (p < k + 1)) = true) := decide_eq_true (by omega)
            have e1 : outL l p false [(⟨a, i, q⟩ : Lc)] (k + 1) = out ++ [⟨a, i, q⟩] ++ [⟨xa, xi, xq⟩] := by
              rw [HOUT.out, hkp2, outL_not rfl (by rw [← hkp2]; exact hjl)]
              have := HY.out
              rw [hkp2] at this
              rw [this]
            have HE1 := Lib.hid e1
            clear e1 hd hkj hoy hkp2 hkp
            by_cases hxa : xa = a
            · have g1 : i < xi := by omega
              have g3 : ¬ xi = i := by omega
              have g2 : (xi == i) = false := by simpa using g3
              subst hxa
              clear hmr g3 hnk
              go_upto_region 26 with (at_builtin; go_must (refine wpList_append_rd _ rfl (.tmp 115) (.tmp 120) _ rfl w.heap.size 36 i0 _ 3 24 Try.underlying22 hinf hz0 hz1 hz2 rfl (by omega) _ out.length (lcs out) rfl (HO3.out.alloc _) _ _ 1 1 _ rfl (hrx _) (cells_one _) (by unfold maxLen; omega) (by omega) (by simp; omega) ?_); intro A5 c5 w5 h1 h2 hown1 hg1 hat1; have HBY1 : Hid (Bk w5 bY 36 #[.int .i64 xa, .int .i64 xi, .int .i64 xq]) := (HBY.out.alloc _).grown hg1 HNEB.out; have HO5 : Hid (w5.ownsRow w.heap.size 36 3 (.slice A5 (out.length + 1) c5) (out.length + 1) (lcs (out ++ [⟨xa, i, q⟩]))) := (by rw [lcs_append, lcs_single]; exact hown1); have HB5 : Hid (Below w.heap.size w w5) := ((HB3.out.alloc hV3s _).grown hg1 (by simp; omega) (fun b hb => (HO3.out.lt b hb).1)); clear x0 x1 x2 z0 z1 z2 hxg hown1 hg1 hat1; obtain ⟨x0, x1, x2, z0, z1, z2, hxg⟩ := HBY1.out.three)
              have hV5 : w.heap.size ≤ w5.heap.size := HB5.out.size
              have hry2 : Rd (w5.alloc (.cells #[.int .i64 xa, .int .i64 xi, .int .i64 xq] 36)) (w5.heap.size + 1) 3 (some ⟨w5.heap.size, 0, none⟩) 1 (Lc.cells ⟨xa, xi, xq⟩) := rd_one (x := ⟨xa, xi, xq⟩) (Bk.new _ _ _)
              go_upto_region 27 with (at_builtin; go_must (refine wpList_append_rd _ rfl (.tmp 122) (.tmp 124) _ rfl w.heap.size 36 i0 _ 3 24 Try.underlying22 hinf hz0 hz1 hz2 rfl (by omega) _ (out.length + 1) (lcs (out ++ [⟨xa, i, q⟩])) rfl (HO5.out.alloc _) _ _ 1 1 _ rfl hry2 (cells_one _) (by unfold maxLen; omega) (by omega) (by simp; omega) ?_); intro A1 c1' w3 h1 h2 hown1 hg1 hat1)
              go_wp2
              refine ⟨⟨k + 1, by omega, by push_cast; rfl, ?_⟩, by simp only [intOf]; omega⟩
              rw [HD2.out]
              have ho5 : w5.ownsRow w.heap.size 36 3 (.slice A5 (out ++ [(⟨xa, i, q⟩ : Lc)]).length c5) (out ++ [(⟨xa, i, q⟩ : Lc)]).length (lcs (out ++ [⟨xa, i, q⟩])) := by have h := HO5.out; simpa using h
              have hx5 : w3.ownsRow w.heap.size 36 3 (.slice A1 ((out ++ [(⟨xa, i, q⟩ : Lc)]).length + 1) c1') ((out ++ [(⟨xa, i, q⟩ : Lc)]).length + 1) (lcs (out ++ [⟨xa, i, q⟩]) ++ Lc.cells ⟨xa, xi, xq⟩) := by rw [List.length_append]; exact hown1
              have hfin := BuildAt.app (lv := true) ho5 HB5.out hx5 (by rw [List.length_append]; exact hg1) HE1.out
              rw [List.length_append] at hfin
              exact hfin
            · have g2 : (xa == a) = false := by simpa using hxa
              have g1 : a < xa := by omega
              clear hmr hnk
              go_upto_region 26 with (at_builtin; go_must (refine wpList_append_rd _ rfl (.tmp 115) (.tmp 120) _ rfl w.heap.size 36 i0 _ 3 24 Try.underlying22 hinf hz0 hz1 hz2 rfl (by omega) _ out.length (lcs out) rfl (HO3.out.alloc _) _ _ 1 1 _ rfl (hrx _) (cells_one _) (by unfold maxLen; omega) (by omega) (by simp; omega) ?_); intro A5 c5 w5 h1 h2 hown1 hg1 hat1; have HBY1 : Hid (Bk w5 bY 36 #[.int .i64 xa, .int .i64 xi, .int .i64 xq]) := (HBY.out.alloc _).grown hg1 HNEB.out; have HO5 : Hid (w5.ownsRow w.heap.size 36 3 (.slice A5 (out.length + 1) c5) (out.length + 1) (lcs (out ++ [⟨a, i, q⟩]))) := (by rw [lcs_append, lcs_single]; exact hown1); have HB5 : Hid (Below w.heap.size w w5) := ((HB3.out.alloc hV3s _).grown hg1 (by simp; omega) (fun b hb => (HO3.out.lt b hb).1)); clear x0 x1 x2 z0 z1 z2 hxg hown1 hg1 hat1; obtain ⟨x0, x1, x2, z0, z1, z2, hxg⟩ := HBY1.out.three)
              have hV5 : w.heap.size ≤ w5.heap.size := HB5.out.size
              have hry2 : Rd (w5.alloc (.cells #[.int .i64 xa, .int .i64 xi, .int .i64 xq] 36)) (w5.heap.size + 1) 3 (some ⟨w5.heap.size, 0, none⟩) 1 (Lc.cells ⟨xa, xi, xq⟩) := rd_one (x := ⟨xa, xi, xq⟩) (Bk.new _ _ _)
              go_upto_region 27 with (at_builtin; go_must (refine wpList_append_rd _ rfl (.tmp 122) (.tmp 124) _ rfl w.heap.size 36 i0 _ 3 24 Try.underlying22 hinf hz0 hz1 hz2 rfl (by omega) _ (out.length + 1) (lcs (out ++ [⟨a, i, q⟩])) rfl (HO5.out.alloc _) _ _ 1 1 _ rfl hry2 (cells_one _) (by unfold maxLen; omega) (by omega) (by simp; omega) ?_); intro A1 c1' w3 h1 h2 hown1 hg1 hat1)
              go_wp2
              refine ⟨⟨k + 1, by omega, by push_cast; rfl, ?_⟩, by simp only [intOf]; omega⟩
              rw [HD2.out]
              have ho5 : w5.ownsRow w.heap.size 36 3 (.slice A5 (out ++ [(⟨a, i, q⟩ : Lc)]).length c5) (out ++ [(⟨a, i, q⟩ : Lc)]).length (lcs (out ++ [⟨a, i, q⟩])) := by have h := HO5.out; simpa using h
              have hx5 : w3.ownsRow w.heap.size 36 3 (.slice A1 ((out ++ [(⟨a, i, q⟩ : Lc)]).length + 1) c1') ((out ++ [(⟨a, i, q⟩ : Lc)]).length + 1) (lcs (out ++ [⟨a, i, q⟩]) ++ Lc.cells ⟨xa, xi, xq⟩) := by rw [List.length_append]; exact hown1
              have hfin := BuildAt.app (lv := true) ho5 HB5.out hx5 (by rw [List.length_append]; exact hg1) HE1.out
              rw [List.length_append] at hfin
              exact hfin
          · have hd : (decide (p < k)) = true := decide_eq_true (by omega)
            rw [hd]
            have HD2 : Hid ((decide (p < k + 1)) = true) := decide_eq_true (by omega)
            clear hd hkj hoy hnk
            have e1 := (show outL l p false [(⟨a, i, q⟩ : Lc)] (k + 1) = out ++ [⟨xa, xi, xq⟩] by rw [outL_high hjl (by omega), ← HOUT.out, HY.out])
            have HE1 := Lib.hid e1
            clear e1
            go_upto_region 27 with (at_builtin; go_must (refine wpList_append_rd _ rfl (.tmp 122) (.tmp 124) _ rfl w.heap.size 36 i0 _ 3 24 Try.underlying22 hinf hz0 hz1 hz2 rfl (by omega) _ out.length (lcs out) rfl (HO3.out.alloc _) _ _ 1 1 _ rfl hry (cells_one _) (by unfold maxLen; omega) (by omega) (by simp; omega) ?_); intro A1 c1' w3 h1 h2 hown1 hg1 hat1)
            go_wp2
            refine ⟨⟨k + 1, by omega, by push_cast; rfl, ?_⟩, by simp only [intOf]; omega⟩
            rw [HD2.out]
            exact BuildAt.app HO3.out HB3.out hown1 hg1 HE1.out
        · have j5 : ¬ ((k : Int) < (m : Int)) := by omega
          have hkm : k = m := by omega
          by_cases hpe : p < m
          · have hd : (decide (p < k)) = true := decide_eq_true (by omega)
            have e : r = (out, 0) := by rw [HER2.out, HOUT.out, hkm, ← HLM.out, outL_new (by rw [HLM.out]; exact hpe)]; rfl
            subst e
            obtain ⟨_, _, hcc, h5, h6⟩ := own_form HO4.out
            injection hcc with hA2 _ hcc
            subst hA2 hcc
            rw [hd]
            clear hd
            go_wp2
            go_ret2
            exact l_ok rfl h5 h6 HO4.out HB4.out
          · have hd : (decide (p < k)) = false := decide_eq_false (by omega)
            obtain ⟨zs, hzs⟩ : ∃ zs, zs = out ++ [(⟨a, i, q⟩ : Lc)] := ⟨_, rfl⟩
            have e : r = (zs, 0) := by
              rw [HER2.out, hzs, HOUT.out, hkm, ← HLM.out, outL_all (by have := HLM.out; omega), List.take_of_length_le (by have := HLM.out; omega), List.drop_eq_nil_of_le (by have := HLM.out; omega)]
            subst e
            have HZS := Lib.hid hzs
            rw [hd]
            have hV4s : w.heap.size ≤ V4.heap.size := HB4.out.size
            clear hd hzs
            go_upto_region 30 with (at_builtin; go_must (refine wpList_append_rd _ rfl (.tmp 129) (.tmp 134) _ rfl w.heap.size 36 i0 _ 3 24 Try.underlying22 hinf hz0 hz1 hz2 rfl (by omega) _ out.length (lcs out) rfl (HO4.out.alloc _) _ _ 1 1 _ rfl (hrx _) (cells_one _) (by unfold maxLen; omega) (by omega) (by simp; omega) ?_); intro A1 c1' w3 h1 h2 hown1 hg1 hat1)
            go_wp2
            go_ret2
            have ho := own_app (y := ⟨a, i, q⟩) hown1
            rw [← HZS.out] at ho
            exact l_ok (by rw [HZS.out]; simp) h1 h2 (by rw [show zs.length = out.length + 1 by rw [HZS.out]; simp] at ho; exact ho) ((HB4.out.alloc hV4s _).grown hg1 (by simp; omega) (fun b hb => (HO4.out.lt b hb).1))

end Go.Proofs.Ytiapbgbbeakoiaa.P
