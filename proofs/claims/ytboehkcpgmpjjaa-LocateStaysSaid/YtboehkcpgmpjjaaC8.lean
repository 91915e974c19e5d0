/- Walk: Reserve. -/
import Derived.Test.YtboehkcpgmpjjaaC7
namespace Go.Proofs.Ytboehkcpgmpjjaa
open Go.RowKit

/-- What Reserve leaves. -/
def ResOut (w : World) (r : List Int × List Lc × Int) (e : Ending) (w' : World) : Prop :=
  ∃ A c B d, e = .returned (.tuple #[.slice A r.1.length c, .slice B r.2.1.length d, .int .i64 r.2.2]) ∧ r.1.length ≤ c ∧ c ≤ maxLen ∧ r.2.1.length ≤ d ∧ d ≤ maxLen ∧
    w'.ownsRow w.heap.size 3 1 (.slice A r.1.length c) r.1.length (ints r.1) ∧ w'.ownsRow w.heap.size 39 3 (.slice B r.2.1.length d) r.2.1.length (lcs r.2.1) ∧ Below w.heap.size w w'
theorem res_bad {w w' : World} (er : Int) (hb : Below w.heap.size w w') : ResOut w ([], [], er) (.returned (.tuple #[.slice none 0 0, .slice none 0 0, .int .i64 er])) w' :=
  ⟨none, 0, none, 0, rfl, Nat.le_refl _, Nat.zero_le _, Nat.le_refl _, Nat.zero_le _, World.ownsRow_nil _ _ _ _, World.ownsRow_nil _ _ _ _, hb⟩

theorem held_fits {l : List Lc} (h : upto (tidyAt l) l.length = true) (a i : Int) : 0 ≤ heldL l a i ∧ heldL l a i ≤ 1000000000 := by
  unfold heldL
  split
  · rename_i x hx
    obtain ⟨j, hj, rfl⟩ := List.mem_iff_getElem.1 (List.mem_of_find?_eq_some hx)
    have := (upto_iff _ _).1 h j hj
    simp only [tidyAt, Bool.and_eq_true] at this
    have h1 := this.1
    rw [getD_lt hj] at h1
    simpa [fitsQ] using h1
  · omega

theorem take_big {α : Type} (X D : List α) (N : Nat) (h : X.length ≤ N) : (X ++ D).take N = X ++ D.take (N - X.length) := by rw [List.take_append, List.take_of_length_le h]

/-- Rows that are made of an answer. -/
theorem res_make {w w2 w' : World} {A B : Option Addr} {c d er : Nat} {ys : List Int} {zs : List Lc} {base : Nat} (hc : ys.length ≤ c) (hc2 : c ≤ maxLen) (hd : zs.length ≤ d) (hd2 : d ≤ maxLen) (h1 : w2.ownsRow w.heap.size 3 1 (.slice A ys.length c) ys.length (ints ys)) (hb : Below w2.heap.size w2 w')
    (h2 : w'.ownsRow base 39 3 (.slice B zs.length d) zs.length (lcs zs)) (hbase : w.heap.size ≤ base) (hw : Below w.heap.size w w2) :
    ResOut w (ys, zs, (er : Int)) (.returned (.tuple #[.slice A ys.length c, .slice B zs.length d, .int .i64 (er : Int)])) w' :=
  ⟨A, c, B, d, rfl, hc, hc2, hd, hd2, own_keep h1 fun p hp => hb.block _ (own_lt h1 p hp).2, own_mono h2 hbase, hw.trans (hb.mono hw.size)⟩

set_option maxHeartbeats 8000000 in
set_option maxRecDepth 100000 in
theorem reserve_any (A B : Option Addr) (n c m d : Nat) (av : List Int) (l : List Lc) (a i q : Int) (w : World) (hav : av.all fitsQ = true) (htl : upto (tidyAt l) l.length = true) (hn : n * 8 ≤ 140737488355328) (hm : m ≤ 1000000)
    (hra : Rd w w.heap.size 1 A n (ints av)) (hrl : Rd w w.heap.size 3 B m (lcs l)) :
    Calls Try.prog 15 #[.slice A n c, .slice B m d, .int .i64 a, .int .i64 i, .int .i64 q] w (ResOut w (reserveS av l a i q)) := by
  have hl : av.length = n := by have := hra.1; rw [ints_len] at this; omega
  have hlm : l.length = m := by have := hrl.1; rw [lcs_len] at this; omega
  have hso := sorted_of l htl
  obtain ⟨hh0, hh1⟩ := held_fits htl a i
  obtain ⟨h, hh⟩ : ∃ h, h = heldL l a i := ⟨_, rfl⟩
  rw [← hh] at hh0 hh1
  have hheld := held_any B m d l a i w (by unfold maxLen; omega) hrl
  rw [← hh] at hheld
  obtain ⟨r, hr⟩ : ∃ r, r = reserveS av l a i q := ⟨_, rfl⟩
  rw [← hr]
  have HELD := Lib.hid hheld
  have HH := Lib.hid hh
  have HR := Lib.hid hr
  have HAV := Lib.hid hav
  have HSO := Lib.hid hso
  have HRA := Lib.hid hra
  have HRL := Lib.hid hrl
  have HLA := Lib.hid hl
  have HLM := Lib.hid hlm
  clear hav htl hra hrl hl hlm hso hh hr hheld
  go_enter Try.func15, Try.ntmps15
  go_wp2_with fail
  refine HELD.out.mono ?_
  rintro e w1 ⟨rfl, hb1⟩
  have HB1 := Lib.hid hb1
  clear hb1
  by_cases hi : i < 0 ∨ (n : Int) ≤ i
  · have e : r = ([], [], 32) := by rw [HR.out]; unfold reserveS; rw [HLA.out, if_pos hi]
    subst e
    by_cases h0 : i < 0
    · go_wp2
      go_ret3
      exact res_bad 32 HB1.out
    · have h1 : (n : Int) ≤ i := by omega
      have h2 : ¬ (i < (n : Int)) := by omega
      go_wp2
      go_ret3
      exact res_bad 32 HB1.out
  obtain ⟨k, rfl⟩ : ∃ k : Nat, i = k := ⟨i.toNat, by omega⟩
  have hk : k < av.length := by have := HLA.out; omega
  obtain ⟨a0, rfl, hab, c0⟩ := (HRA.out.below HB1.out).int hk
  obtain ⟨hv0, hv1⟩ := all_at HAV.out hk
  obtain ⟨v, hv⟩ : ∃ v, v = av[k] := ⟨_, rfl⟩
  rw [← hv] at c0 hv0 hv1
  have HV : Hid (av.getD k 0 = v) := by rw [hv]; exact getD_lt hk
  clear hv hab
  have er : Hid (r = if q < -1000000000 ∨ 1000000000 < q ∨ h + q < 0 ∨ 1000000000 < h + q then ([], [], 36) else if v < q then ([], [], 39) else if 1000000000 < v - q then ([], [], 36)
      else if thereB l ⟨a, k, 0⟩ = false ∧ h + q ≠ 0 ∧ 32 ≤ l.length then ([], [], 40) else (av.set k (v - q), putL l (place l ⟨a, k, 0⟩) (thereB l ⟨a, k, 0⟩) ⟨a, k, h + q⟩, 0)) := Lib.hid (by
    rw [HR.out]; unfold reserveS; rw [HLA.out, if_neg hi, Int.toNat_natCast, HV.out, ← HH.out])
  have i1 : (0 : Int) ≤ (k : Int) := by omega
  have i2 : (k : Int) < (n : Int) := by omega
  have i3 : ¬ ((k : Int) < 0) := by omega
  have i4 : ¬ ((n : Int) ≤ (k : Int)) := by omega
  by_cases hq0 : q < -1000000000
  · have e : r = ([], [], 36) := by rw [er.out, if_pos (.inl hq0)]
    subst e
    go_wp2
    go_ret3
    exact res_bad 36 HB1.out
  by_cases hq1 : 1000000000 < q
  · have e : r = ([], [], 36) := by rw [er.out, if_pos (.inr (.inl hq1))]
    subst e
    go_wp2
    go_ret3
    exact res_bad 36 HB1.out
  have iw : IntKind.i64.wrap (h + q) = h + q := IntWalk.i64_in _ (by omega)
  have hq2 : ¬ (q > 1000000000) := by omega
  by_cases hs0 : h + q < 0
  · have e : r = ([], [], 36) := by rw [er.out, if_pos (.inr (.inr (.inl hs0)))]
    subst e
    go_wp2
    go_ret3
    exact res_bad 36 HB1.out
  by_cases hs1 : 1000000000 < h + q
  · have e : r = ([], [], 36) := by rw [er.out, if_pos (.inr (.inr (.inr hs1)))]
    subst e
    go_wp2
    go_ret3
    exact res_bad 36 HB1.out
  have er2 : Hid (r = if v < q then ([], [], 39) else if 1000000000 < v - q then ([], [], 36)
      else if thereB l ⟨a, k, 0⟩ = false ∧ h + q ≠ 0 ∧ 32 ≤ l.length then ([], [], 40) else (av.set k (v - q), putL l (place l ⟨a, k, 0⟩) (thereB l ⟨a, k, 0⟩) ⟨a, k, h + q⟩, 0)) := Lib.hid (by
    rw [er.out, if_neg (by omega)])
  clear er
  by_cases hvq : v < q
  · have e : r = ([], [], 39) := by rw [er2.out, if_pos hvq]
    subst e
    go_wp2
    go_ret3
    exact res_bad 39 HB1.out
  have hvq' : ¬ (q > v) := by omega
  have iw2 : IntKind.i64.wrap (-q) = -q := IntWalk.i64_in _ (by omega)
  have hsup : Calls Try.prog 10 #[.slice (some a0) n c, .int .i64 (k : Int), .int .i64 (-q)] w1 (SupOut w1 (supplyS av k (-q))) := supply_any (some a0) n c av k (-q) w1 HAV.out hn ((HRA.out.below HB1.out).mono HB1.out.size)
  have es : supplyS av k (-q) = if 1000000000 < v - q then ([], 36) else (av.set k (v - q), 0) := by
    unfold supplyS
    rw [HLA.out, if_neg hi, Int.toNat_natCast, HV.out]
    by_cases h1 : 1000000000 < v - q
    · rw [if_pos (by omega), if_pos h1]
    · rw [if_neg (by omega), if_neg h1]; rfl
  rw [es] at hsup
  clear es
  by_cases hvm : 1000000000 < v - q
  · have e : r = ([], [], 36) := by rw [er2.out, if_neg hvq, if_pos hvm]
    subst e
    rw [if_pos hvm] at hsup
    have HSUP := Lib.hid hsup
    clear hsup
    go_wp2_with fail
    refine HSUP.out.mono ?_
    rintro e w2 ⟨A1, c1, rfl, _, _, _, hb2⟩
    go_wp2
    go_ret3
    exact res_bad 36 (HB1.out.trans (hb2.mono HB1.out.size))
  rw [if_neg hvm] at hsup
  have HSUP := Lib.hid hsup
  clear hsup
  have er3 : Hid (r = if thereB l ⟨a, k, 0⟩ = false ∧ h + q ≠ 0 ∧ 32 ≤ l.length then ([], [], 40) else (av.set k (v - q), putL l (place l ⟨a, k, 0⟩) (thereB l ⟨a, k, 0⟩) ⟨a, k, h + q⟩, 0)) := Lib.hid (by
    rw [er2.out, if_neg hvq, if_neg hvm])
  clear er2
  go_wp2_with fail
  refine HSUP.out.mono ?_
  rintro e w2 ⟨A1, c1, rfl, hc1, hm1, ho1, hb2⟩
  dsimp only at hc1 ho1
  clear c0
  obtain ⟨ys, hys⟩ : ∃ ys, ys = av.set k (v - q) := ⟨_, rfl⟩
  dsimp only
  rw [← hys] at hc1 ho1 ⊢
  have HYS := Lib.hid hys
  have HO1 : Hid (w2.ownsRow w.heap.size 3 1 (.slice A1 ys.length c1) ys.length (ints ys)) := own_mono ho1 HB1.out.size
  have HB2 : Hid (Below w.heap.size w w2) := HB1.out.trans (hb2.mono HB1.out.size)
  have HC1 := Lib.hid hc1
  have HM1 := Lib.hid hm1
  clear hys ho1 hb2 hc1 hm1
  go_wp2_with fail
  refine (cloneL_any B m d (lcs l) w2 (lcs_one l) (by omega) ((HRL.out.below HB2.out).mono HB2.out.size)).mono ?_
  rintro e w3 ⟨A2, c2, rfl, hc2, hm2, ho2, hb3⟩
  obtain ⟨W4, hW4⟩ : ∃ W4, W4 = w3.alloc (.cells #[.int .i64 a, .int .i64 (k : Int), .int .i64 (h + q)] 39) := ⟨_, rfl⟩
  obtain ⟨bx, hbx⟩ : ∃ bx, bx = w3.heap.size := ⟨_, rfl⟩
  have HBX : Hid (Bk W4 bx 39 #[.int .i64 a, .int .i64 (k : Int), .int .i64 (h + q)]) := by rw [hW4, hbx]; exact Bk.new _ _ _
  have HB4 : Hid (Below w2.heap.size w2 W4) := by rw [hW4]; exact hb3.alloc hb3.size _
  have HO4 : Hid (W4.ownsRow w2.heap.size 39 3 (.slice A2 m c2) m (lcs l)) := by rw [hW4]; exact ho2.alloc _
  have hb24 : w2.heap.size ≤ W4.heap.size := HB4.out.size
  go_upto_region 15 with (fail)
  rw [← hW4, ← hbx]
  clear hW4 hbx ho2 hb3
  obtain ⟨x0, x1, x2, z0, z1, z2, hxg⟩ := HBX.out.three
  have hbsf := bsf_any A2 m c2 l ⟨a, k, h + q⟩ W4 HSO.out (by omega) (Rd.of_own HO4.out)
  rw [place_key l a k (h + q) 0, there_key l a k (h + q) 0] at hbsf
  obtain ⟨p, hp⟩ : ∃ p, p = place l ⟨a, k, 0⟩ := ⟨_, rfl⟩
  obtain ⟨th, hth⟩ : ∃ th, th = thereB l ⟨a, k, 0⟩ := ⟨_, rfl⟩
  have HPL := HSO.out.place ⟨a, k, 0⟩
  rw [← hp, ← hth] at hbsf er3
  rw [← hp] at HPL
  have hpm : p ≤ m := by have := HPL.1; have := HLM.out; omega
  have hthp : th = true → p < m := fun ht => by
    have e := ht
    rw [hth] at e
    unfold thereB at e
    rw [← hp] at e
    simp only [Bool.and_eq_true, decide_eq_true_eq] at e
    have := HLM.out
    omega
  have HBSF := Lib.hid hbsf
  clear hbsf hp hth HPL
  unfold Lc.val at HBSF
  go_wp2_with fail
  refine HBSF.out.mono ?_
  rintro e w5 ⟨rfl, hb5⟩
  have HBX5 : Hid (Bk w5 bx 39 #[.int .i64 a, .int .i64 (k : Int), .int .i64 (h + q)]) := HBX.out.below hb5 HBX.out.lt
  have HO5 : Hid (w5.ownsRow w2.heap.size 39 3 (.slice A2 m c2) m (lcs l)) := own_keep HO4.out fun p hp => hb5.block _ (own_lt HO4.out p hp).2
  have HB5 : Hid (Below w2.heap.size w2 w5) := HB4.out.trans (hb5.mono hb24)
  clear x0 x1 x2 z0 z1 z2 hxg hb5
  obtain ⟨x0, x1, x2, z0, z1, z2, hxg⟩ := HBX5.out.three
  have hw2 : w.heap.size ≤ w2.heap.size := HB2.out.size
  by_cases ht : th = true
  · subst ht
    have hpm' := hthp rfl
    obtain ⟨g0, rfl⟩ : ∃ g0, A2 = some g0 := by
      rcases A2 with _ | g0
      · rcases HO5.out.2 with ⟨_, h0⟩ | ⟨_, _, _, hv, _⟩
        · omega
        · cases hv
      · exact ⟨g0, rfl⟩
    obtain ⟨g, cur, rfl, hgb, hB, hmc, hcm, hsz, hcur⟩ := own_open HO5.out
    obtain ⟨m', rfl⟩ : ∃ m', m = m' + 1 := ⟨m - 1, by omega⟩
    by_cases hz : h + q = 0
    · have e : r = (ys, l.take p ++ l.drop (p + 1), 0) := by
        rw [er3.out, if_neg (by simp), HYS.out]
        unfold putL
        rw [if_pos hz, if_pos rfl]
        rfl
      subst e
      have iw3 : IntKind.i64.wrap ((p : Int) + 1) = (p : Int) + 1 := IntWalk.i64_in _ (by omega)
      have hdel := delete_any w2.heap.size g m' c2 p l cur w5 hgb hB hmc hcm hsz HLM.out hcur hpm'
      have HDEL := Lib.hid hdel
      have hll : (l.take p ++ l.drop (p + 1)).length = m' := by rw [List.length_append, List.length_take, List.length_drop, HLM.out]; omega
      have HLL := Lib.hid hll
      have hmc' : m' ≤ c2 := by omega
      clear hdel hB hsz hcur hll
      go_wp2_with fail
      refine HDEL.out.mono ?_
      rintro e w6 ⟨rfl, ho6, hb6⟩
      clear x0 x1 x2 z0 z1 z2 hxg
      go_wp2
      go_ret3
      have hll := HLL.out
      rw [← hll] at ho6 ⊢
      exact res_make (er := 0) HC1.out HM1.out (by rw [hll]; exact hmc') hcm HO1.out (HB5.out.trans hb6) ho6 hw2 HB2.out
    · have e : r = (ys, l.take p ++ (⟨a, k, h + q⟩ :: l.drop (p + 1)), 0) := by
        rw [er3.out, if_neg (by simp), HYS.out]
        unfold putL
        rw [if_neg hz, if_pos rfl]
        rfl
      subst e
      have hp3 : p * 3 + 3 ≤ cur.size := by omega
      have hgl := hB.lt
      obtain ⟨_, y0⟩ : ∃ v, w5.cell? ⟨g, p * 3, none⟩ = some v := ⟨_, by rw [hB.cell]; exact Array.getElem?_eq_getElem (by omega)⟩
      obtain ⟨_, y1⟩ : ∃ v, w5.cell? ⟨g, p * 3 + 1, none⟩ = some v := ⟨_, by rw [hB.cell]; exact Array.getElem?_eq_getElem (by omega)⟩
      obtain ⟨_, y2⟩ : ∃ v, w5.cell? ⟨g, p * 3 + 2, none⟩ = some v := ⟨_, by rw [hB.cell]; exact Array.getElem?_eq_getElem (by omega)⟩
      have u0 := hB.frozen (p * 3)
      have u1 := hB.frozen (p * 3 + 1)
      have u2 := hB.frozen (p * 3 + 2)
      have hB6 : Bk (((w5.setCell ⟨g, p * 3, none⟩ (.int .i64 a)).setCell ⟨g, p * 3 + 1, none⟩ (.int .i64 (k : Int))).setCell ⟨g, p * 3 + 2, none⟩ (.int .i64 (h + q))) g 39 (ow cur (p * 3) (Lc.cells ⟨a, k, h + q⟩)) :=
        Bk.cells (Lc.cells ⟨a, k, h + q⟩) (p * 3) hB
      have hll : (l.take p ++ (⟨a, k, h + q⟩ :: l.drop (p + 1)) : List Lc).length = m' + 1 := by rw [List.length_append, List.length_cons, List.length_take, List.length_drop, HLM.out]; omega
      have hfin : (((w5.setCell ⟨g, p * 3, none⟩ (.int .i64 a)).setCell ⟨g, p * 3 + 1, none⟩ (.int .i64 (k : Int))).setCell ⟨g, p * 3 + 2, none⟩ (.int .i64 (h + q))).ownsRow w2.heap.size 39 3 (.slice (some ⟨g, 0, none⟩) (m' + 1) c2) (m' + 1) (lcs (l.take p ++ (⟨a, k, h + q⟩ :: l.drop (p + 1)))) := by
        refine own_shut hgb hB6 hmc hcm (by rw [ow_size]; exact hsz) hll ?_
        have hx3 : (Lc.cells ⟨a, k, h + q⟩).length = 3 := rfl
        have e0 : cur.toList.take (p * 3) = lcs (l.take p) := by rw [← lcs_take, ← hcur, List.take_take, Nat.min_eq_left (by omega)]
        have e1 : lcs (l.take p ++ (⟨a, k, h + q⟩ :: l.drop (p + 1))) = lcs (l.take p) ++ (Lc.cells ⟨a, k, h + q⟩ ++ lcs (l.drop (p + 1))) := by rw [lcs_append]; rfl
        have e2 : lcs (l.drop (p + 1)) = (cur.toList.drop (p * 3 + 3)).take ((m' + 1) * 3 - (p * 3 + 3)) := by
          rw [← lcs_drop, ← hcur, List.drop_take, show (p + 1) * 3 = p * 3 + 3 by omega]
        have ht0 : (cur.toList.take (p * 3)).length = p * 3 := by rw [List.length_take, Array.length_toList]; omega
        have hX : (cur.toList.take (p * 3) ++ Lc.cells ⟨a, k, h + q⟩).length = p * 3 + 3 := by rw [List.length_append, ht0, hx3]
        rw [ow_list _ _ _ (by rw [hx3]; omega), hx3, e1, ← List.append_assoc, take_big _ _ _ (by rw [hX]; omega), hX, e2, e0, List.append_assoc]
      have HLL := Lib.hid hll
      have HFIN := Lib.hid hfin
      have HB7 : Hid (Below w2.heap.size w2 (((w5.setCell ⟨g, p * 3, none⟩ (.int .i64 a)).setCell ⟨g, p * 3 + 1, none⟩ (.int .i64 (k : Int))).setCell ⟨g, p * 3 + 2, none⟩ (.int .i64 (h + q)))) :=
        Below.setCell (Below.setCell (Below.setCell HB5.out (p := ⟨g, p * 3, none⟩) hgb _) (p := ⟨g, p * 3 + 1, none⟩) hgb _) (p := ⟨g, p * 3 + 2, none⟩) hgb _
      have i5 : (0 : Int) ≤ (p : Int) := by omega
      have i6 : (p : Int) < (m' : Int) + 1 := by omega
      clear hB hB6 hsz hcur hll hfin
      go_wp2
      go_ret3
      have hll := HLL.out
      have ho6 := HFIN.out
      rw [← hll] at ho6 ⊢
      exact res_make (er := 0) HC1.out HM1.out (by rw [hll]; exact hmc) hcm HO1.out HB7.out ho6 hw2 HB2.out
  have htf : th = false := by simpa using ht
  subst htf
  by_cases hz : h + q = 0
  · have e : r = (ys, l, 0) := by
      rw [er3.out, if_neg (by omega), HYS.out]
      unfold putL
      rw [if_pos hz, if_neg (by simp), List.nil_append, List.take_append_drop]
    subst e
    obtain ⟨_, _, hc2', h5, h6⟩ := own_form HO5.out
    injection hc2' with hA2 _ hc2'
    subst hA2 hc2'
    go_wp2
    go_ret3
    have hll := HLM.out
    have ho6 := HO5.out
    rw [← hll] at ho6 h5 ⊢
    exact res_make (er := 0) HC1.out HM1.out h5 h6 HO1.out HB5.out ho6 hw2 HB2.out
  by_cases h32 : 32 ≤ m
  · have e : r = ([], [], 40) := by rw [er3.out, if_pos ⟨rfl, hz, by rw [HLM.out]; exact h32⟩]
    subst e
    have i5 : (32 : Int) ≤ (m : Int) := by omega
    go_wp2
    go_ret3
    exact res_bad 40 (HB2.out.trans (HB5.out.mono hw2))
  have e : r = (ys, l.take p ++ ⟨a, k, h + q⟩ :: l.drop p, 0) := by
    rw [er3.out, if_neg (by rw [HLM.out]; omega), HYS.out]
    unfold putL
    rw [if_neg hz, if_neg (by simp)]
    rfl
  obtain ⟨zs, hzs⟩ : ∃ zs, zs = l.take p ++ (⟨a, k, h + q⟩ : Lc) :: l.drop p := ⟨_, rfl⟩
  rw [← hzs] at e
  subst e
  have i5 : ¬ ((32 : Int) ≤ (m : Int)) := by omega
  obtain ⟨vb, hvb⟩ : ∃ vb, vb = w5.heap.size := ⟨_, rfl⟩
  obtain ⟨W6, hW6⟩ : ∃ W6, W6 = w5.alloc (.cells #[.int .i64 a, .int .i64 (k : Int), .int .i64 (h + q)] 39) := ⟨_, rfl⟩
  have hVB : Bk W6 vb 39 #[.int .i64 a, .int .i64 (k : Int), .int .i64 (h + q)] := by rw [hW6, hvb]; exact Bk.new _ _ _
  have hO6 : W6.ownsRow w2.heap.size 39 3 (.slice A2 m c2) m (lcs l) := by rw [hW6]; exact HO5.out.alloc _
  have HB6 : Hid (Below w2.heap.size w2 W6) := by rw [hW6]; exact HB5.out.alloc HB5.out.size _
  have hins : Calls Try.prog 29 #[.slice A2 m c2, .int .i64 (p : Int), .slice (some ⟨vb, 0, none⟩) 1 1] W6 (InsOut w2.heap.size W6 zs) := by
    rw [hzs]
    by_cases hpe : p = m
    · have e1 : l.take p = l := List.take_of_length_le (by rw [HLM.out]; omega)
      have e2 : l.drop p = [] := List.drop_eq_nil_of_le (by rw [HLM.out]; omega)
      rw [e1, e2]
      subst hpe
      exact insert_end w2.heap.size p c2 vb A2 l ⟨a, k, h + q⟩ W6 hO6 HLM.out (by omega) HB6.out.size hVB
    · have hpl : p < m := by omega
      obtain ⟨g0, rfl⟩ : ∃ g0, A2 = some g0 := by
        rcases A2 with _ | g0
        · rcases hO6.2 with ⟨_, h0⟩ | ⟨_, _, _, hv, _⟩
          · omega
          · cases hv
        · exact ⟨g0, rfl⟩
      obtain ⟨g, cur, rfl, hgb, hB, hmc, hcm, hsz, hcur⟩ := own_open hO6
      by_cases hce : c2 = m
      · subst hce
        exact insert_grow w2.heap.size c2 p vb g l ⟨a, k, h + q⟩ cur W6 HB6.out.size hB hsz HLM.out hcur (by omega) hpl hVB
      · refine insert_shift w2.heap.size m c2 p vb g l ⟨a, k, h + q⟩ cur W6 hgb hB (by omega) hcm hsz HLM.out hcur hpl ?_ hVB
        intro hvg
        have := (HO5.out.lt g rfl).2
        omega
  have HINS := Lib.hid hins
  clear hins hO6 hVB hzs
  go_wp2_with fail
  rw [← hW6, ← hvb]
  refine HINS.out.mono ?_
  rintro e w7 ⟨A3, c3, rfl, h5, h6, ho7, hb7⟩
  clear x0 x1 x2 z0 z1 z2 hxg
  have hb27 : Below w2.heap.size w2 w7 := HB6.out.trans hb7
  go_wp2
  go_ret3
  exact res_make (er := 0) HC1.out HM1.out h5 h6 HO1.out hb27 ho7 hw2 HB2.out

end Go.Proofs.Ytboehkcpgmpjjaa
