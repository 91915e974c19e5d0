/- Walk of BookFills. -/
import Derived.Test.YtiapbgbbeakoiaaOS2
import Derived.Test.YtiapbgbbeakoiaaOM
import Derived.Test.YtiapbgbbeakoiaaOW
import Derived.Test.YtiapbgbbeakoiaaD1
namespace Go.Proofs.Ytiapbgbbeakoiaa.O
open Go.RowKit

set_option maxHeartbeats 16000000 in
set_option maxRecDepth 100000 in
theorem fills_walk (B : Option Addr) (m d : Nat) (l : List Lc) (o : Lc) (part : Int) (w : World) (hm : m ≤ maxLen) (hrl : Rd w w.heap.size 5 B m (lcs l)) :
    Calls Try.prog 8 #[.slice B m d, o.val, .int .i64 part] w fun e w' => e = .returned (.bool true) ∧ Below w.heap.size w w' := by
  obtain ⟨oa, oid, oin, oq, op⟩ := o
  obtain ⟨W, hW⟩ : ∃ W, W = w.alloc (.cells #[.int .i64 oa, .int .i64 oid, .int .i64 oin, .int .i64 oq, .int .i64 op] 38) := ⟨_, rfl⟩
  obtain ⟨bx, hbx⟩ : ∃ bx, bx = w.heap.size := ⟨_, rfl⟩
  have HBX : Hid (Bk W bx 38 #[.int .i64 oa, .int .i64 oid, .int .i64 oin, .int .i64 oq, .int .i64 op]) := by rw [hW, hbx]; exact Bk.new _ _ _
  have HWW : Hid (Below w.heap.size w W) := by rw [hW]; exact (Below.refl _ w).alloc (Nat.le_refl _) _
  have hll : l.length = m := by have := hrl.1; rw [lcs_len] at this; omega
  have HLL := Lib.hid hll
  have HRL : Hid (∀ V, Below W.heap.size W V → Rd V V.heap.size 5 B m (lcs l)) := fun V h => ((hrl.below HWW.out).mono HWW.out.size |>.below h).mono h.size
  have HBV : Hid (∀ V, Below W.heap.size W V → Bk V bx 38 #[.int .i64 oa, .int .i64 oid, .int .i64 oin, .int .i64 oq, .int .i64 op]) := fun V h => HBX.out.below h HBX.out.lt
  have HFIN : Hid (∀ V, Below W.heap.size W V → Below w.heap.size w V) := fun V h => HWW.out.trans (h.mono HWW.out.size)
  obtain ⟨g, hg⟩ : ∃ g, g = goodB 16 12 l := ⟨_, rfl⟩
  have HG1 : Hid (∀ V, Below W.heap.size W V → Calls Try.prog 23 #[.slice B m d, .int .i64 16, .int .i64 12] V fun e w' => e = .returned (.bool g) ∧ Below V.heap.size V w') := fun V h => by rw [hg]; exact good_any B m d l 16 12 V hm (HRL.out V h)
  obtain ⟨rr, hrr⟩ : ∃ rr, rr = putL l ⟨oa, oid, oin, oq, op⟩ := ⟨_, rfl⟩
  have hval : Lc.val ⟨oa, oid, oin, oq, op⟩ = .agg #[.int .i64 oa, .int .i64 oid, .int .i64 oin, .int .i64 oq, .int .i64 op] := rfl
  have HR1 : Hid (g = true → ∀ V, Below W.heap.size W V → Calls Try.prog 17 #[.slice B m d, .agg #[.int .i64 oa, .int .i64 oid, .int .i64 oin, .int .i64 oq, .int .i64 op]] V (LOut V rr)) := fun h1 V hV => by
    rw [hrr, ← hval]
    have h2 := h1
    rw [hg] at h2
    exact put_any B m d l _ V (good_sorted h2) (by have := ((good_iff _ _ _).1 h2).1; omega) (HRL.out V hV)
  have HGG := Lib.hid hg
  clear hg
  obtain ⟨⟨l', er⟩, hs⟩ : ∃ s, s = rr := ⟨_, rfl⟩
  rw [← hs] at HR1 hrr
  have HRR := Lib.hid hrr
  clear hs rr
  unfold maxLen at hm
  clear hll hrl hrr
  rw [hval]
  clear hval
  go_enter Try.func8, Try.ntmps8
  go_wp2_with fail
  rw [← hW, ← hbx]
  clear hW hbx
  refine (wakes_any W).mono ?_
  rintro e w1 ⟨rfl, hb1⟩
  have HB1 := Lib.hid hb1
  clear hb1
  go_wp2_with fail
  refine (HG1.out w1 HB1.out).mono ?_
  rintro e w2 ⟨rfl, hb2⟩
  have HB2 : Hid (Below W.heap.size W w2) := HB1.out.trans (hb2.mono HB1.out.size)
  clear hb2
  obtain ⟨x0, x1, x2, x3, x4, z0, z1, z2, z3, z4, hxg⟩ := (HBV.out w2 HB2.out).five
  cases g with
  | false =>
    go_wp2
    go_ret
    exact ⟨rfl, HFIN.out _ HB2.out⟩
  | true => ?_
  obtain ⟨W3, hW3⟩ : ∃ W3, W3 = w2.alloc (.cells #[.int .i64 oa, .int .i64 oid, .int .i64 oin, .int .i64 oq, .int .i64 op] 38) := ⟨_, rfl⟩
  obtain ⟨vb, hvb⟩ : ∃ vb, vb = w2.heap.size := ⟨_, rfl⟩
  have hV3 : Bk W3 vb 38 #[.int .i64 oa, .int .i64 oid, .int .i64 oin, .int .i64 oq, .int .i64 op] := by rw [hW3, hvb]; exact Bk.new _ _ _
  have HB3 : Hid (Below W.heap.size W W3) := by rw [hW3]; exact HB2.out.alloc HB2.out.size _
  obtain ⟨g2, hg2⟩ : ∃ g2, g2 = goodB 16 12 [⟨oa, oid, oin, oq, op⟩] := ⟨_, rfl⟩
  have hgo := good_any (some ⟨vb, 0, none⟩) 1 1 [⟨oa, oid, oin, oq, op⟩] 16 12 W3 (by unfold maxLen; omega) ⟨rfl, fun _ => ⟨_, rfl, hV3.lt, World.news_of_block hV3⟩⟩
  rw [← hg2] at hgo
  have HGO := Lib.hid hgo
  have HG2' := Lib.hid hg2
  clear hgo hg2 hV3
  go_wp2_with fail
  rw [← hW3, ← hvb]
  clear hW3 hvb
  refine HGO.out.mono ?_
  rintro e w3 ⟨rfl, hb3⟩
  have HB4 : Hid (Below W.heap.size W w3) := HB3.out.trans (hb3.mono HB3.out.size)
  clear hb3 x0 x1 x2 x3 x4 z0 z1 z2 z3 z4 hxg
  obtain ⟨x0, x1, x2, x3, x4, z0, z1, z2, z3, z4, hxg⟩ := (HBV.out w3 HB4.out).five
  cases g2 with
  | false =>
    go_wp2
    go_ret
    exact ⟨rfl, HFIN.out _ HB4.out⟩
  | true => ?_
  have hok : okB 16 12 ⟨oa, oid, oin, oq, op⟩ = true := ((good_iff _ _ _).1 HG2'.out.symm).2.1 _ (List.mem_singleton.2 rfl)
  have HOK := Lib.hid hok
  clear hok HG2' HGO
  go_wp2_with fail
  refine (HR1.out trivial w3 HB4.out).mono ?_
  rintro e w4 ⟨A1, c1, rfl, hc1, hm1, ho1, hb4⟩
  have HB5 : Hid (Below W.heap.size W w4) := HB4.out.trans (hb4.mono HB4.out.size)
  clear hb4 x0 x1 x2 x3 x4 z0 z1 z2 z3 z4 hxg
  dsimp only at hc1 ho1
  have HC := Lib.hid ho1
  clear ho1
  obtain ⟨x0, x1, x2, x3, x4, z0, z1, z2, z3, z4, hxg⟩ := (HBV.out w4 HB5.out).five
  by_cases her : er = 0
  case neg =>
    obtain ⟨hnil, hcase⟩ := put_err (good_sorted HGG.out.symm) HRR.out.symm her
    subst hnil
    obtain ⟨f, hf⟩ : ∃ f, f = findL l oa oid := ⟨_, rfl⟩
    have HFF : Hid (∀ V, Below W.heap.size W V → Calls Try.prog 26 #[.slice B m d, .int .i64 oa, .int .i64 oid] V fun e w' => e = .returned (.int .i64 f) ∧ Below V.heap.size V w') := fun V hV => by rw [hf]; exact find_any B m d l oa oid V (by unfold maxLen; omega) (HRL.out V hV)
    dsimp only at hcase
    rw [← hf] at hcase
    clear hf
    rcases hcase with ⟨rfl, hf0⟩ | ⟨rfl, hf0⟩
    · go_wp2_with fail
      refine (HFF.out w4 HB5.out).mono ?_
      rintro e w5 ⟨rfl, hb5⟩
      go_wp2
      go_ret
      exact ⟨by simp, HFIN.out _ (HB5.out.trans (hb5.mono HB5.out.size))⟩
    · go_wp2_with fail
      refine (HFF.out w4 HB5.out).mono ?_
      rintro e w5 ⟨rfl, hb5⟩
      go_wp2
      go_ret
      exact ⟨by simp [hf0], HFIN.out _ (HB5.out.trans (hb5.mono HB5.out.size))⟩
  subst her
  have HK := Lib.hid (filled HGG.out.symm HOK.out HRR.out.symm)
  have hokk := of_decide_eq_true HOK.out
  dsimp only at hokk
  have hq0 : oq ≠ 0 ∧ -1000000000 ≤ oq ∧ oq ≤ 1000000000 := by omega
  clear hokk
  obtain ⟨hqz, hqa, hqb⟩ := hq0
  have hl32 : l'.length ≤ 32 := ((good_iff _ _ _).1 HK.out.good).1
  have hW4 : W.heap.size ≤ w4.heap.size := HB5.out.size
  have HRL1 : Hid (∀ V, Below w4.heap.size w4 V → Rd V V.heap.size 5 A1 l'.length (lcs l')) := fun V h => ((Rd.of_own HC.out).below h).mono h.size
  have HBW : Hid (∀ V, Below w4.heap.size w4 V → Below W.heap.size W V) := fun V h => HB5.out.trans (h.mono hW4)
  obtain ⟨f, hf⟩ : ∃ f, f = findL l' oa oid := ⟨_, rfl⟩
  have hf0 : 0 ≤ f := by rw [hf]; exact HK.out.find
  have HFF : Hid (∀ V, Below w4.heap.size w4 V → Calls Try.prog 26 #[.slice A1 l'.length c1, .int .i64 oa, .int .i64 oid] V fun e w' => e = .returned (.int .i64 f) ∧ Below V.heap.size V w') := fun V hV => by rw [hf]; exact find_any A1 l'.length c1 l' oa oid V (by unfold maxLen; omega) (HRL1.out V hV)
  have HG3 : Hid (∀ V, Below w4.heap.size w4 V → Calls Try.prog 23 #[.slice A1 l'.length c1, .int .i64 16, .int .i64 12] V fun e w' => e = .returned (.bool true) ∧ Below V.heap.size V w') := fun V h => by rw [← HK.out.good]; exact good_any A1 l'.length c1 l' 16 12 V (by unfold maxLen; omega) (HRL1.out V h)
  have HD1 : Hid (∀ V, Below w4.heap.size w4 V → Calls Try.prog 19 #[.slice A1 l'.length c1, .int .i64 oa, .int .i64 oid] V (LOut V (l, 0))) := fun V h => by
    rw [← HK.out.drop]
    exact drop_any A1 l'.length c1 l' oa oid V (good_sorted HK.out.good) (by omega) (HRL1.out V h)
  have HSAME : Hid (∀ V V' A4 c4, Below W.heap.size W V → V.ownsRow W.heap.size 38 5 (.slice A4 l.length c4) l.length (lcs l) → Below V.heap.size V V' → Calls Try.prog 20 #[.slice A4 l.length c4, .slice B m d] V' fun e w' => e = .returned (.bool true) ∧ ∃ m, w' = V'.drewN m) := fun V V' A4 c4 hV ho hV' => by
    rw [HLL.out] at ho ⊢
    exact same_any A4 B m c4 d l V' HLL.out (by unfold maxLen; omega) (((Rd.of_own ho).below hV').mono hV'.size) (HRL.out V' (hV.trans (hV'.mono hV.size)))
  have HDR : Hid (∀ V q, Below W.heap.size W V → Below W.heap.size W (V.drewN q)) := fun V q h => ⟨h.os, h.tape, h.output, h.size, h.block⟩
  clear hf hc1 hm1
  go_wp2_with fail
  refine (HG3.out w4 (Below.refl _ _)).mono ?_
  rintro e w5 ⟨rfl, hb5⟩
  have HB6 := Lib.hid hb5
  clear hb5 x0 x1 x2 x3 x4 z0 z1 z2 z3 z4 hxg
  obtain ⟨x0, x1, x2, x3, x4, z0, z1, z2, z3, z4, hxg⟩ := (HBV.out w5 (HBW.out w5 HB6.out)).five
  go_wp2_with fail
  refine (HFF.out w5 HB6.out).mono ?_
  rintro e w6 ⟨rfl, hb6⟩
  have HB7 : Hid (Below w4.heap.size w4 w6) := HB6.out.trans (hb6.mono HB6.out.size)
  clear hb6 x0 x1 x2 x3 x4 z0 z1 z2 z3 z4 hxg
  obtain ⟨x0, x1, x2, x3, x4, z0, z1, z2, z3, z4, hxg⟩ := (HBV.out w6 (HBW.out w6 HB7.out)).five
  have hfn : ¬ f < 0 := by omega
  go_wp2_with fail
  refine (HD1.out w6 HB7.out).mono ?_
  rintro e w7 ⟨A2, c2, rfl, hc2, hm2, ho2, hb7⟩
  have HB8 : Hid (Below w4.heap.size w4 w7) := HB7.out.trans (hb7.mono HB7.out.size)
  dsimp only at hc2 ho2 ⊢
  have HO2 : Hid (w7.ownsRow W.heap.size 38 5 (.slice A2 l.length c2) l.length (lcs l)) := own_mono ho2 (HBW.out _ HB7.out).size
  clear hb7 hc2 hm2 ho2 x0 x1 x2 x3 x4 z0 z1 z2 z3 z4 hxg
  go_wp2_with fail
  refine (HSAME.out w7 w7 A2 c2 (HBW.out _ HB8.out) HO2.out (Below.refl _ _)).mono ?_
  rintro e w8 ⟨rfl, q8, rfl⟩
  obtain ⟨V8, hV8⟩ : ∃ V8, V8 = w7.drewN q8 := ⟨_, rfl⟩
  have HB9 : Hid (Below w4.heap.size w4 V8) := by rw [hV8]; have h := HB8.out; exact ⟨h.os, h.tape, h.output, h.size, h.block⟩
  rw [← hV8]
  clear hV8 HO2
  obtain ⟨x0, x1, x2, x3, x4, z0, z1, z2, z3, z4, hxg⟩ := (HBV.out V8 (HBW.out V8 HB9.out)).five
  have hna : IntKind.i64.wrap (-oq) = -oq := IntWalk.i64_in _ (by omega)
  obtain ⟨sz, hsz⟩ : ∃ sz, sz = absI oq := ⟨_, rfl⟩
  have hcase : (oq < 0 ∧ sz = -oq) ∨ (¬ oq < 0 ∧ sz = oq) := by
    by_cases h0 : oq < 0
    · exact .inl ⟨h0, by rw [hsz]; exact if_pos h0⟩
    · exact .inr ⟨h0, by rw [hsz]; exact if_neg h0⟩
  have hs1 : 1 ≤ sz ∧ sz ≤ 1000000000 := by omega
  have hwhole := HK.out.whole
  have hpart := HK.out.part
  dsimp only at hwhole hpart
  rw [← hsz] at hwhole hpart
  have HWH := Lib.hid hwhole
  have HPT := Lib.hid hpart
  have htid := good_tidy HK.out.good
  have HTID := Lib.hid htid
  clear hsz hwhole hpart htid
  have HCUT : Hid (∀ V, Below w4.heap.size w4 V → ∀ q, Calls Try.prog 18 #[.slice A1 l'.length c1, .int .i64 oa, .int .i64 oid, .int .i64 q] V (COut V (cutL l' oa oid q))) := fun V h q => cut_any A1 l'.length c1 l' oa oid q V HTID.out (by omega) (HRL1.out V h)
  rcases hcase with ⟨h0, hse⟩ | ⟨h0, hse⟩
  · have hgt : -oq > oq := by omega
    go_upto_region 14 with (fail)
    rw [← hse]
    clear hgt hse h0
    by_cases hp : part < 1 ∨ sz ≤ part
    · have hcw := fun V h => HCUT.out V h sz
      rw [HWH.out] at hcw
      have HCW := Lib.hid hcw
      clear hcw
      have hgoal : ∀ {K : Prop}, (part < 1 → K) → (¬ part < 1 → sz ≤ part → K) → K := fun h1 h2 => by
        by_cases h : part < 1
        · exact h1 h
        · exact h2 h (by omega)
      refine hgoal (fun hp1 => ?_) (fun hp1 hp2 => ?_)
      all_goals
        clear hp hgoal
        go_wp2_with fail
        refine (HCW.out V8 HB9.out).mono ?_
        rintro e w9 ⟨A3, c3, rfl, hc3, hm3, ho3, hb9⟩
        dsimp only at hc3 ho3 ⊢
        have HB10 : Hid (Below w4.heap.size w4 w9) := HB9.out.trans (hb9.mono HB9.out.size)
        have HO3 : Hid (w9.ownsRow W.heap.size 38 5 (.slice A3 l.length c3) l.length (lcs l)) := own_mono ho3 (HBW.out _ HB9.out).size
        clear hb9 hc3 hm3 ho3 x0 x1 x2 x3 x4 z0 z1 z2 z3 z4 hxg
        go_wp2_with fail
        refine (HSAME.out w9 w9 A3 c3 (HBW.out _ HB10.out) HO3.out (Below.refl _ _)).mono ?_
        rintro e w10 ⟨rfl, q10, rfl⟩
        go_wp2
        go_ret
        exact ⟨rfl, HFIN.out _ (HDR.out _ _ (HBW.out _ HB10.out))⟩
    have hp1 : ¬ part < 1 := by omega
    have hp2 : ¬ sz ≤ part := by omega
    obtain ⟨cc, hcc, hcg, hcl⟩ := HPT.out part (by omega) (by omega)
    have hcp := fun V h => HCUT.out V h part
    rw [hcc] at hcp
    have HCP := Lib.hid hcp
    have HCG := Lib.hid hcg
    have HCL := Lib.hid hcl
    have hiw : IntKind.i64.wrap (sz - part) = sz - part := IntWalk.i64_in _ (by omega)
    clear hcp hcc hcg hcl hp
    go_wp2_with fail
    refine (HCP.out V8 HB9.out).mono ?_
    rintro e w9 ⟨A3, c3, rfl, hc3, hm3, ho3, hb9⟩
    dsimp only at hc3 ho3 ⊢
    have HB10 : Hid (Below w4.heap.size w4 w9) := HB9.out.trans (hb9.mono HB9.out.size)
    have HO3 := Lib.hid ho3
    have hc32 : cc.length ≤ 32 := ((good_iff _ _ _).1 HCG.out).1
    have HRC : Hid (∀ V, Below w9.heap.size w9 V → Rd V V.heap.size 5 A3 cc.length (lcs cc)) := fun V h => ((Rd.of_own HO3.out).below h).mono h.size
    have HG4 : Hid (∀ V, Below w9.heap.size w9 V → Calls Try.prog 23 #[.slice A3 cc.length c3, .int .i64 16, .int .i64 12] V fun e w' => e = .returned (.bool true) ∧ Below V.heap.size V w') := fun V h => by rw [← HCG.out]; exact good_any A3 cc.length c3 cc 16 12 V (by unfold maxLen; omega) (HRC.out V h)
    have HCUT2 : Hid (∀ V, Below w9.heap.size w9 V → Calls Try.prog 18 #[.slice A3 cc.length c3, .int .i64 oa, .int .i64 oid, .int .i64 (sz - part)] V (COut V (l, 0, 0))) := fun V h => by
      rw [← HCL.out]
      exact cut_any A3 cc.length c3 cc oa oid (sz - part) V (good_tidy HCG.out) (by omega) (HRC.out V h)
    clear hb9 hc3 hm3 ho3 x0 x1 x2 x3 x4 z0 z1 z2 z3 z4 hxg
    go_wp2_with fail
    refine (HG4.out w9 (Below.refl _ _)).mono ?_
    rintro e w10 ⟨rfl, hb10⟩
    have HB11 := Lib.hid hb10
    have HB12 : Hid (Below w4.heap.size w4 w10) := HB10.out.trans (hb10.mono HB10.out.size)
    clear hb10
    obtain ⟨x0, x1, x2, x3, x4, z0, z1, z2, z3, z4, hxg⟩ := (HBV.out w10 (HBW.out w10 HB12.out)).five
    go_wp2_with fail
    refine (HCUT2.out w10 HB11.out).mono ?_
    rintro e w11 ⟨A4, c4, rfl, hc4, hm4, ho4, hb11⟩
    dsimp only at hc4 ho4 ⊢
    have HB13 : Hid (Below w4.heap.size w4 w11) := HB12.out.trans (hb11.mono HB12.out.size)
    have HO4 : Hid (w11.ownsRow W.heap.size 38 5 (.slice A4 l.length c4) l.length (lcs l)) := own_mono ho4 (HBW.out _ HB12.out).size
    clear hb11 hc4 hm4 ho4 x0 x1 x2 x3 x4 z0 z1 z2 z3 z4 hxg
    go_wp2_with fail
    refine (HSAME.out w11 w11 A4 c4 (HBW.out _ HB13.out) HO4.out (Below.refl _ _)).mono ?_
    rintro e w12 ⟨rfl, q12, rfl⟩
    go_wp2
    go_ret
    exact ⟨rfl, HFIN.out _ (HDR.out _ _ (HBW.out _ HB13.out))⟩
  · have hgt : ¬ (-oq > oq) := by omega
    go_upto_region 14 with (fail)
    clear hgt h0
    subst hse
    by_cases hp : part < 1 ∨ sz ≤ part
    · have hcw := fun V h => HCUT.out V h sz
      rw [HWH.out] at hcw
      have HCW := Lib.hid hcw
      clear hcw
      have hgoal : ∀ {K : Prop}, (part < 1 → K) → (¬ part < 1 → sz ≤ part → K) → K := fun h1 h2 => by
        by_cases h : part < 1
        · exact h1 h
        · exact h2 h (by omega)
      refine hgoal (fun hp1 => ?_) (fun hp1 hp2 => ?_)
      all_goals
        clear hp hgoal
        go_wp2_with fail
        refine (HCW.out V8 HB9.out).mono ?_
        rintro e w9 ⟨A3, c3, rfl, hc3, hm3, ho3, hb9⟩
        dsimp only at hc3 ho3 ⊢
        have HB10 : Hid (Below w4.heap.size w4 w9) := HB9.out.trans (hb9.mono HB9.out.size)
        have HO3 : Hid (w9.ownsRow W.heap.size 38 5 (.slice A3 l.length c3) l.length (lcs l)) := own_mono ho3 (HBW.out _ HB9.out).size
        clear hb9 hc3 hm3 ho3 x0 x1 x2 x3 x4 z0 z1 z2 z3 z4 hxg
        go_wp2_with fail
        refine (HSAME.out w9 w9 A3 c3 (HBW.out _ HB10.out) HO3.out (Below.refl _ _)).mono ?_
        rintro e w10 ⟨rfl, q10, rfl⟩
        go_wp2
        go_ret
        exact ⟨rfl, HFIN.out _ (HDR.out _ _ (HBW.out _ HB10.out))⟩
    have hp1 : ¬ part < 1 := by omega
    have hp2 : ¬ sz ≤ part := by omega
    obtain ⟨cc, hcc, hcg, hcl⟩ := HPT.out part (by omega) (by omega)
    have hcp := fun V h => HCUT.out V h part
    rw [hcc] at hcp
    have HCP := Lib.hid hcp
    have HCG := Lib.hid hcg
    have HCL := Lib.hid hcl
    have hiw : IntKind.i64.wrap (sz - part) = sz - part := IntWalk.i64_in _ (by omega)
    clear hcp hcc hcg hcl hp
    go_wp2_with fail
    refine (HCP.out V8 HB9.out).mono ?_
    rintro e w9 ⟨A3, c3, rfl, hc3, hm3, ho3, hb9⟩
    dsimp only at hc3 ho3 ⊢
    have HB10 : Hid (Below w4.heap.size w4 w9) := HB9.out.trans (hb9.mono HB9.out.size)
    have HO3 := Lib.hid ho3
    have hc32 : cc.length ≤ 32 := ((good_iff _ _ _).1 HCG.out).1
    have HRC : Hid (∀ V, Below w9.heap.size w9 V → Rd V V.heap.size 5 A3 cc.length (lcs cc)) := fun V h => ((Rd.of_own HO3.out).below h).mono h.size
    have HG4 : Hid (∀ V, Below w9.heap.size w9 V → Calls Try.prog 23 #[.slice A3 cc.length c3, .int .i64 16, .int .i64 12] V fun e w' => e = .returned (.bool true) ∧ Below V.heap.size V w') := fun V h => by rw [← HCG.out]; exact good_any A3 cc.length c3 cc 16 12 V (by unfold maxLen; omega) (HRC.out V h)
    have HCUT2 : Hid (∀ V, Below w9.heap.size w9 V → Calls Try.prog 18 #[.slice A3 cc.length c3, .int .i64 oa, .int .i64 oid, .int .i64 (sz - part)] V (COut V (l, 0, 0))) := fun V h => by
      rw [← HCL.out]
      exact cut_any A3 cc.length c3 cc oa oid (sz - part) V (good_tidy HCG.out) (by omega) (HRC.out V h)
    clear hb9 hc3 hm3 ho3 x0 x1 x2 x3 x4 z0 z1 z2 z3 z4 hxg
    go_wp2_with fail
    refine (HG4.out w9 (Below.refl _ _)).mono ?_
    rintro e w10 ⟨rfl, hb10⟩
    have HB11 := Lib.hid hb10
    have HB12 : Hid (Below w4.heap.size w4 w10) := HB10.out.trans (hb10.mono HB10.out.size)
    clear hb10
    obtain ⟨x0, x1, x2, x3, x4, z0, z1, z2, z3, z4, hxg⟩ := (HBV.out w10 (HBW.out w10 HB12.out)).five
    go_wp2_with fail
    refine (HCUT2.out w10 HB11.out).mono ?_
    rintro e w11 ⟨A4, c4, rfl, hc4, hm4, ho4, hb11⟩
    dsimp only at hc4 ho4 ⊢
    have HB13 : Hid (Below w4.heap.size w4 w11) := HB12.out.trans (hb11.mono HB12.out.size)
    have HO4 : Hid (w11.ownsRow W.heap.size 38 5 (.slice A4 l.length c4) l.length (lcs l)) := own_mono ho4 (HBW.out _ HB12.out).size
    clear hb11 hc4 hm4 ho4 x0 x1 x2 x3 x4 z0 z1 z2 z3 z4 hxg
    go_wp2_with fail
    refine (HSAME.out w11 w11 A4 c4 (HBW.out _ HB13.out) HO4.out (Below.refl _ _)).mono ?_
    rintro e w12 ⟨rfl, q12, rfl⟩
    go_wp2
    go_ret
    exact ⟨rfl, HFIN.out _ (HDR.out _ _ (HBW.out _ HB13.out))⟩

end Go.Proofs.Ytiapbgbbeakoiaa.O
