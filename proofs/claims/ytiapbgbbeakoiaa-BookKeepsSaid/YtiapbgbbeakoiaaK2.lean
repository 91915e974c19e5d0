/- Walk of BookKeeps. -/
import Derived.Test.YtiapbgbbeakoiaaK1
namespace Go.Proofs.Ytiapbgbbeakoiaa
open Go.RowKit

set_option maxHeartbeats 16000000 in
set_option maxRecDepth 100000 in
theorem keeps_walk (A B : Option Addr) (n c m d : Nat) (av : List P.Lc) (l : List O.Lc) (xa xi xq xd : Int) (w : World) (hn : n * 24 ≤ 140737488355328) (hm : m * 40 ≤ 140737488355328) (hra : Rd w w.heap.size 3 A n (P.lcs av)) (hrl : Rd w w.heap.size 5 B m (O.lcs l)) :
    Calls Try.prog 4 #[.slice A n c, .slice B m d, .agg #[.int .i64 xa, .int .i64 xi, .int .i64 xq, .int .i64 xd]] w fun e w' => e = .returned (.bool true) ∧ Below w.heap.size w w' := by
  obtain ⟨W, hW⟩ : ∃ W, W = w.alloc (.cells #[.int .i64 xa, .int .i64 xi, .int .i64 xq, .int .i64 xd] 33) := ⟨_, rfl⟩
  obtain ⟨bx, hbx⟩ : ∃ bx, bx = w.heap.size := ⟨_, rfl⟩
  have HBX : Hid (Bk W bx 33 #[.int .i64 xa, .int .i64 xi, .int .i64 xq, .int .i64 xd]) := by rw [hW, hbx]; exact Bk.new _ _ _
  have HWW : Hid (Below w.heap.size w W) := by rw [hW]; exact (Below.refl _ w).alloc (Nat.le_refl _) _
  have hll : l.length = m := by have := hrl.1; rw [O.lcs_len] at this; omega
  have hal : av.length = n := by have := hra.1; rw [P.lcs_len] at this; omega
  have HLL := Lib.hid hll
  have HAL := Lib.hid hal
  have HRA : Hid (∀ V, Below W.heap.size W V → Rd V V.heap.size 3 A n (P.lcs av)) := fun V h => ((hra.below HWW.out).mono HWW.out.size |>.below h).mono h.size
  have HRL : Hid (∀ V, Below W.heap.size W V → Rd V V.heap.size 5 B m (O.lcs l)) := fun V h => ((hrl.below HWW.out).mono HWW.out.size |>.below h).mono h.size
  have HFIN : Hid (∀ V, Below W.heap.size W V → Below w.heap.size w V) := fun V h => HWW.out.trans (h.mono HWW.out.size)
  obtain ⟨t1, ht1⟩ : ∃ t1, t1 = P.tidyB av := ⟨_, rfl⟩
  obtain ⟨t2, ht2⟩ : ∃ t2, t2 = O.tidyB l := ⟨_, rfl⟩
  have HT1 : Hid (∀ V, Below W.heap.size W V → Calls Try.prog 10 #[.slice A n c] V fun e w' => e = .returned (.bool t1) ∧ Below V.heap.size V w') := fun V hV => by rw [ht1]; exact P.rrise_any A n c av V (by unfold maxLen; omega) (HRA.out V hV)
  have HT2 : Hid (∀ V, Below W.heap.size W V → Calls Try.prog 16 #[.slice B m d] V fun e w' => e = .returned (.bool t2) ∧ Below V.heap.size V w') := fun V hV => by rw [ht2]; exact O.rrise_any B m d l V (by unfold maxLen; omega) (HRL.out V hV)
  have HE1 := Lib.hid ht1
  have HE2 := Lib.hid ht2
  clear hll hal hra hrl ht1 ht2
  go_enter Try.func4, Try.ntmps4
  go_wp2_with fail
  rw [← hW, ← hbx]
  clear hW hbx
  refine (wakes_any W).mono ?_
  rintro e w1 ⟨rfl, hb1⟩
  have HB1 := Lib.hid hb1
  clear hb1
  go_wp2_with fail
  refine (HT1.out w1 HB1.out).mono ?_
  rintro e w2 ⟨rfl, hb2⟩
  have HB2 : Hid (Below W.heap.size W w2) := HB1.out.trans (hb2.mono HB1.out.size)
  clear hb2
  cases t1 with
  | false =>
    go_wp2
    go_ret
    exact ⟨rfl, HFIN.out _ HB2.out⟩
  | true => ?_
  go_wp2_with fail
  refine (HT2.out w2 HB2.out).mono ?_
  rintro e w3 ⟨rfl, hb3⟩
  have HB3 : Hid (Below W.heap.size W w3) := HB2.out.trans (hb3.mono HB2.out.size)
  clear hb3
  cases t2 with
  | false =>
    go_wp2
    go_ret
    exact ⟨rfl, HFIN.out _ HB3.out⟩
  | true => ?_
  have iw0 : IntKind.i64.wrap ((n : Int) + (m : Int)) = (n : Int) + (m : Int) := IntWalk.i64_in _ (by omega)
  by_cases h512 : 512 < n + m
  · have i1 : (512 : Int) < (n : Int) + (m : Int) := by omega
    go_wp2
    go_ret
    exact ⟨rfl, HFIN.out _ HB3.out⟩
  have i1 : ¬ ((512 : Int) < (n : Int) + (m : Int)) := by omega
  -- the two copies
  obtain ⟨i0, hif, y0, y1, y2⟩ := info_parts P.info36
  obtain ⟨k0, hkf, u0, u1, u2⟩ := info_parts O.info38
  have hE : (w3.alloc (.cells #[] 36)).ownsRow w3.heap.size 36 3 (.slice (some ⟨w3.heap.size, 0, none⟩) 0 0) 0 [] := own_empty (Bk.new _ _ _) (Nat.le_refl _)
  have hRA2 : Rd (w3.alloc (.cells #[] 36)) w3.heap.size 3 A n (P.lcs av) := (HRA.out w3 HB3.out).alloc (Nat.le_refl _) _
  have one1 := P.lcs_one av
  have h71 : ∀ V : World, Rd (V.alloc (.cells #[.int .i64 71, .int .i64 0, .int .i64 0, .int .i64 72, .int .i64 0, .int .i64 0] 36)) (V.heap.size + 1) 3 (some ⟨V.heap.size, 0, none⟩) 2 [.int .i64 71, .int .i64 0, .int .i64 0, .int .i64 72, .int .i64 0, .int .i64 0] := fun V => rd_blk (Bk.new _ _ _) rfl
  go_upto_region 6 with (first
    | (at_builtin; refine wpList_append_rd _ rfl (.tmp 40) (.tmp 41) _ rfl w3.heap.size 36 i0 _ 3 24 Try.underlying22 hif y0 y1 y2 rfl (by omega) _ 0 [] rfl hE w3.heap.size A n c _ rfl hRA2 one1 (by unfold maxLen; omega) (by omega) (by simp) ?_; intro A1 c1 x1 h1 h2 hown1 hg1 hat1; simp only [Nat.zero_add, List.nil_append] at hown1 h1; have HO1 := Lib.hid hown1; have HG1 := Lib.hid hg1; clear hown1 hg1 hat1)
    | (at_builtin; refine wpList_append_rd _ rfl (.tmp 42) (.tmp 45) _ rfl w3.heap.size 36 i0 _ 3 24 Try.underlying22 hif y0 y1 y2 rfl (by omega) _ n (P.lcs av) rfl (HO1.out.alloc _) _ _ 2 2 _ rfl (h71 _) (by simp [Value.oneCell']) (by unfold maxLen; omega) (by omega) (by have := HG1.out.size; simp at this; simp; omega) ?_; intro A2 c2 x2 h3 h4 hown2 hg2 hat2; have HO2 := Lib.hid hown2; have HG2 := Lib.hid hg2; clear hown2 hg2 hat2))
  have HX1 : Hid (Below w3.heap.size w3 x1) := ((Below.refl w3.heap.size w3).alloc (Nat.le_refl _) _).grown HG1.out (by simp) (fun b hb => Nat.le_of_eq (Option.some.inj hb))
  have HX2 : Hid (Below w3.heap.size w3 x2) := (HX1.out.alloc HX1.out.size _).grown HG2.out (by have := HX1.out.size; simp; omega) (fun b hb => (HO1.out.lt b hb).1)
  clear hE hRA2 h71 HG1 HG2
  have HBW4 : Hid (Below W.heap.size W x2) := HB3.out.trans (HX2.out.mono HB3.out.size)
  have hE2 : (x2.alloc (.cells #[] 38)).ownsRow x2.heap.size 38 5 (.slice (some ⟨x2.heap.size, 0, none⟩) 0 0) 0 [] := own_empty (Bk.new _ _ _) (Nat.le_refl _)
  have hRL2 : Rd (x2.alloc (.cells #[] 38)) x2.heap.size 5 B m (O.lcs l) := (HRL.out x2 HBW4.out).alloc (Nat.le_refl _) _
  have one2 := O.lcs_one l
  have h73 : ∀ V : World, Rd (V.alloc (.cells #[.int .i64 73, .int .i64 0, .int .i64 0, .int .i64 0, .int .i64 0, .int .i64 74, .int .i64 0, .int .i64 0, .int .i64 0, .int .i64 0] 38)) (V.heap.size + 1) 5 (some ⟨V.heap.size, 0, none⟩) 2 [.int .i64 73, .int .i64 0, .int .i64 0, .int .i64 0, .int .i64 0, .int .i64 74, .int .i64 0, .int .i64 0, .int .i64 0, .int .i64 0] := fun V => rd_blk (Bk.new _ _ _) rfl
  go_upto_region 7 with (first
    | (at_builtin; refine wpList_append_rd _ rfl (.tmp 47) (.tmp 48) _ rfl x2.heap.size 38 k0 _ 5 40 Try.underlying32 hkf u0 u1 u2 rfl (by omega) _ 0 [] rfl hE2 x2.heap.size B m d _ rfl hRL2 one2 (by unfold maxLen; omega) (by omega) (by simp) ?_; intro A3 c3 x3 h5 h6 hown3 hg3 hat3; simp only [Nat.zero_add, List.nil_append] at hown3 h5; have HO3 := Lib.hid hown3; have HG3 := Lib.hid hg3; clear hown3 hg3 hat3)
    | (at_builtin; refine wpList_append_rd _ rfl (.tmp 49) (.tmp 52) _ rfl x2.heap.size 38 k0 _ 5 40 Try.underlying32 hkf u0 u1 u2 rfl (by omega) _ m (O.lcs l) rfl (HO3.out.alloc _) _ _ 2 2 _ rfl (h73 _) (by simp [Value.oneCell']) (by unfold maxLen; omega) (by omega) (by have := HG3.out.size; simp at this; simp; omega) ?_; intro B2 d2 V1 h7 h8 hown4 hg4 hat4; have HO4 := Lib.hid hown4; have HG4 := Lib.hid hg4; clear hown4 hg4 hat4))
  have HX3 : Hid (Below x2.heap.size x2 x3) := ((Below.refl x2.heap.size x2).alloc (Nat.le_refl _) _).grown HG3.out (by simp) (fun b hb => Nat.le_of_eq (Option.some.inj hb))
  have HX4 : Hid (Below x2.heap.size x2 V1) := (HX3.out.alloc HX3.out.size _).grown HG4.out (by have := HX3.out.size; simp; omega) (fun b hb => (HO3.out.lt b hb).1)
  have HBV1 : Hid (Below W.heap.size W V1) := HBW4.out.trans (HX4.out.mono HBW4.out.size)
  have HV : Hid (V1.ownsRow w3.heap.size 36 3 (.slice A2 (n + 2) c2) (n + 2) (P.lcs av ++ [.int .i64 71, .int .i64 0, .int .i64 0, .int .i64 72, .int .i64 0, .int .i64 0])) := own_keep HO2.out fun p hp => HX4.out.block _ (own_lt HO2.out p hp).2
  clear hE2 hRL2 h73 HG3 HG4 HO1 HO3
  have HRV : Hid (∀ V, Below V1.heap.size V1 V → Rd V V.heap.size 3 A2 (n + 2) (P.lcs av ++ [.int .i64 71, .int .i64 0, .int .i64 0, .int .i64 72, .int .i64 0, .int .i64 0])) := fun V hV => ((Rd.of_own HV.out).below hV).mono hV.size
  have HRW : Hid (∀ V, Below V1.heap.size V1 V → Rd V V.heap.size 5 B2 (m + 2) (O.lcs l ++ [.int .i64 73, .int .i64 0, .int .i64 0, .int .i64 0, .int .i64 0, .int .i64 74, .int .i64 0, .int .i64 0, .int .i64 0, .int .i64 0])) := fun V hV => ((Rd.of_own HO4.out).below hV).mono hV.size
  have HRVn : Hid (∀ V, Below V1.heap.size V1 V → Rd V V.heap.size 3 A2 n (P.lcs av)) := fun V hV => (HRV.out V hV).front (by rw [P.lcs_len, HAL.out]) (by omega)
  have HRWm : Hid (∀ V, Below V1.heap.size V1 V → Rd V V.heap.size 5 B2 m (O.lcs l)) := fun V hV => (HRW.out V hV).front (by rw [O.lcs_len, HLL.out]) (by omega)
  obtain ⟨⟨sl, se⟩, hrs⟩ : ∃ rs, rs = P.addL av xa xi xq := ⟨_, rfl⟩
  obtain ⟨⟨pl, pe⟩, hrp⟩ : ∃ rs, rs = O.putL l ⟨xa, xd, 0, 1, 0⟩ := ⟨_, rfl⟩
  obtain ⟨⟨cl, cv, ce⟩, hrc⟩ : ∃ rs, rs = O.cutL l xa xd 1 := ⟨_, rfl⟩
  obtain ⟨⟨dl, de⟩, hrd⟩ : ∃ rs, rs = O.dropL l xa xd := ⟨_, rfl⟩
  have hsl : sl.length ≤ n + 1 := by have := addL_len av xa xi xq; rw [← hrs, HAL.out] at this; exact this
  have hpl : pl.length ≤ m + 1 := by have := putL_len l ⟨xa, xd, 0, 1, 0⟩; rw [← hrp, HLL.out] at this; exact this
  have hcl : cl.length ≤ m := by have := cutL_len l xa xd 1; rw [← hrc, HLL.out] at this; exact this
  have hdl : dl.length ≤ m := by have := dropL_len l xa xd; rw [← hrd, HLL.out] at this; exact this
  have hso := O.sorted_of l ((O.tidy_iff l).1 HE2.out.symm).1
  have HS1 : Hid (∀ V, Below V1.heap.size V1 V → Calls Try.prog 11 #[.slice A2 n c2, .int .i64 xa, .int .i64 xi, .int .i64 xq] V (P.LOut V (sl, se))) := fun V hV => by rw [hrs]; exact P.add_any A2 n c2 av xa xi xq V HE1.out.symm (by omega) (HRVn.out V hV)
  have HP1 : Hid (∀ V, Below V1.heap.size V1 V → Calls Try.prog 17 #[.slice B2 m d2, .agg #[.int .i64 xa, .int .i64 xd, .int .i64 0, .int .i64 1, .int .i64 0]] V (O.LOut V (pl, pe))) := fun V hV => by rw [hrp]; exact O.put_any B2 m d2 l ⟨xa, xd, 0, 1, 0⟩ V hso (by omega) (HRWm.out V hV)
  have HC1 : Hid (∀ V, Below V1.heap.size V1 V → Calls Try.prog 18 #[.slice B2 m d2, .int .i64 xa, .int .i64 xd, .int .i64 1] V (O.COut V (cl, cv, ce))) := fun V hV => by rw [hrc]; exact O.cut_any B2 m d2 l xa xd 1 V HE2.out.symm (by omega) (HRWm.out V hV)
  have HD1 : Hid (∀ V, Below V1.heap.size V1 V → Calls Try.prog 19 #[.slice B2 m d2, .int .i64 xa, .int .i64 xd] V (O.LOut V (dl, de))) := fun V hV => by rw [hrd]; exact O.drop_any B2 m d2 l xa xd V hso (by omega) (HRWm.out V hV)
  clear hrs hrp hrc hrd hso
  unfold maxLen at h4 h8
  have e0 : (0 : Int) ≤ (n : Int) := by omega
  have e1 : (n : Int) ≤ (c2 : Int) := by omega
  have e2 : (0 : Int) ≤ (m : Int) := by omega
  have e3 : (m : Int) ≤ (d2 : Int) := by omega
  have HCELL : Hid (∀ V, Below V1.heap.size V1 V → V.cell? ⟨bx, 0, none⟩ = some (.int .i64 xa) ∧ V.cell? ⟨bx, 1, none⟩ = some (.int .i64 xi) ∧ V.cell? ⟨bx, 2, none⟩ = some (.int .i64 xq) ∧ V.cell? ⟨bx, 3, none⟩ = some (.int .i64 xd)) := fun V hV => by
    have a := (HBX.out.below (HBV1.out.trans (hV.mono HBV1.out.size)) HBX.out.lt).four
    exact ⟨a.1, a.2.1, a.2.2.1, a.2.2.2.1⟩
  have HS7 : Hid (∀ V, Below V1.heap.size V1 V → (fun V => Below V1.heap.size V1 V ∧ V.cell? ⟨bx, 0, none⟩ = some (.int .i64 xa) ∧ V.cell? ⟨bx, 1, none⟩ = some (.int .i64 xi) ∧ V.cell? ⟨bx, 2, none⟩ = some (.int .i64 xq) ∧ V.cell? ⟨bx, 3, none⟩ = some (.int .i64 xd)) V) := fun V hB => ⟨hB, HCELL.out V hB⟩
  go_region_held3 (fun V => Below V1.heap.size V1 V ∧ V.cell? ⟨bx, 0, none⟩ = some (.int .i64 xa) ∧ V.cell? ⟨bx, 1, none⟩ = some (.int .i64 xi) ∧ V.cell? ⟨bx, 2, none⟩ = some (.int .i64 xq) ∧ V.cell? ⟨bx, 3, none⟩ = some (.int .i64 xd))
    (first
      | with_reducible assumption
      | (refine HS7.out _ ?_; first | with_reducible exact HW2.out | with_reducible exact (Below.refl _ _).drew))
    (first
      | (go_at_call 11; obtain ⟨hB, -⟩ := ‹Below V1.heap.size V1 _ ∧ _›; refine (HS1.out _ hB).mono ?_; rintro e V7 ⟨A9, c9, rfl, hc9, hm9, ho9, hb9⟩; dsimp only at hc9 ho9; have HW2 : Hid (Below V1.heap.size V1 V7) := hB.trans (hb9.mono hB.size); have HO7 : Hid (Ow V7 V1.heap.size 36 3 A9 sl.length c9) := Ow.of (own_mono ho9 hB.size); clear hB hb9 ho9 hc9 hm9; dsimp only))
  have HB7 := HW2
  clear HW2 HS7
  have HBV7 : Hid (Below V1.heap.size V1 V7) := HB7.out
  go_upto_region 8 with (fail)
  have HS8 : Hid (∀ V, Below V7.heap.size V7 V → (fun V => Below V7.heap.size V7 V ∧ V.cell? ⟨bx, 0, none⟩ = some (.int .i64 xa) ∧ V.cell? ⟨bx, 1, none⟩ = some (.int .i64 xi) ∧ V.cell? ⟨bx, 2, none⟩ = some (.int .i64 xq) ∧ V.cell? ⟨bx, 3, none⟩ = some (.int .i64 xd)) V) := fun V hB => ⟨hB, HCELL.out V (HBV7.out.trans (hB.mono HBV7.out.size))⟩
  go_region_held3 (fun V => Below V7.heap.size V7 V ∧ V.cell? ⟨bx, 0, none⟩ = some (.int .i64 xa) ∧ V.cell? ⟨bx, 1, none⟩ = some (.int .i64 xi) ∧ V.cell? ⟨bx, 2, none⟩ = some (.int .i64 xq) ∧ V.cell? ⟨bx, 3, none⟩ = some (.int .i64 xd))
    (first
      | with_reducible assumption
      | (refine HS8.out _ ?_; first | with_reducible exact HW2.out | with_reducible exact (Below.refl _ _).drew))
    (first
      | (go_at_call 17; obtain ⟨hB, -⟩ := ‹Below V7.heap.size V7 _ ∧ _›; refine (HP1.out _ (HBV7.out.trans (hB.mono HBV7.out.size))).mono ?_; rintro e V8 ⟨B8, d8, rfl, hc9, hm9, ho9, hb9⟩; dsimp only at hc9 ho9; have HW2 : Hid (Below V7.heap.size V7 V8) := hB.trans (hb9.mono hB.size); have HO8 : Hid (Ow V8 V7.heap.size 38 5 B8 pl.length d8) := Ow.of (own_mono ho9 hB.size); clear hB hb9 ho9 hc9 hm9; dsimp only))
  have HB8 := HW2
  clear HW2 HS8
  have HBV8 : Hid (Below V1.heap.size V1 V8) := HBV7.out.trans (HB8.out.mono HBV7.out.size)
  go_upto_region 9 with (fail)
  have HS9 : Hid (∀ V, Below V8.heap.size V8 V → (fun V => Below V8.heap.size V8 V ∧ V.cell? ⟨bx, 0, none⟩ = some (.int .i64 xa) ∧ V.cell? ⟨bx, 1, none⟩ = some (.int .i64 xi) ∧ V.cell? ⟨bx, 2, none⟩ = some (.int .i64 xq) ∧ V.cell? ⟨bx, 3, none⟩ = some (.int .i64 xd)) V) := fun V hB => ⟨hB, HCELL.out V (HBV8.out.trans (hB.mono HBV8.out.size))⟩
  go_region_held3 (fun V => Below V8.heap.size V8 V ∧ V.cell? ⟨bx, 0, none⟩ = some (.int .i64 xa) ∧ V.cell? ⟨bx, 1, none⟩ = some (.int .i64 xi) ∧ V.cell? ⟨bx, 2, none⟩ = some (.int .i64 xq) ∧ V.cell? ⟨bx, 3, none⟩ = some (.int .i64 xd))
    (first
      | with_reducible assumption
      | (refine HS9.out _ ?_; first | with_reducible exact HW2.out | with_reducible exact (Below.refl _ _).drew))
    (first
      | (go_at_call 18; obtain ⟨hB, -⟩ := ‹Below V8.heap.size V8 _ ∧ _›; refine (HC1.out _ (HBV8.out.trans (hB.mono HBV8.out.size))).mono ?_; rintro e V9 ⟨B9, d9, rfl, hc9, hm9, ho9, hb9⟩; dsimp only at hc9 ho9; have HW2 : Hid (Below V8.heap.size V8 V9) := hB.trans (hb9.mono hB.size); have HO9 : Hid (Ow V9 V8.heap.size 38 5 B9 cl.length d9) := Ow.of (own_mono ho9 hB.size); clear hB hb9 ho9 hc9 hm9; dsimp only))
  have HB9 := HW2
  clear HW2 HS9
  have HBV9 : Hid (Below V1.heap.size V1 V9) := HBV8.out.trans (HB9.out.mono HBV8.out.size)
  go_upto_region 10 with (fail)
  have HS10 : Hid (∀ V, Below V9.heap.size V9 V → (fun V => Below V9.heap.size V9 V ∧ V.cell? ⟨bx, 0, none⟩ = some (.int .i64 xa) ∧ V.cell? ⟨bx, 1, none⟩ = some (.int .i64 xi) ∧ V.cell? ⟨bx, 2, none⟩ = some (.int .i64 xq) ∧ V.cell? ⟨bx, 3, none⟩ = some (.int .i64 xd)) V) := fun V hB => ⟨hB, HCELL.out V (HBV9.out.trans (hB.mono HBV9.out.size))⟩
  go_region_held3 (fun V => Below V9.heap.size V9 V ∧ V.cell? ⟨bx, 0, none⟩ = some (.int .i64 xa) ∧ V.cell? ⟨bx, 1, none⟩ = some (.int .i64 xi) ∧ V.cell? ⟨bx, 2, none⟩ = some (.int .i64 xq) ∧ V.cell? ⟨bx, 3, none⟩ = some (.int .i64 xd))
    (first
      | with_reducible assumption
      | (refine HS10.out _ ?_; first | with_reducible exact HW2.out | with_reducible exact (Below.refl _ _).drew))
    (first
      | (go_at_call 19; obtain ⟨hB, -⟩ := ‹Below V9.heap.size V9 _ ∧ _›; refine (HD1.out _ (HBV9.out.trans (hB.mono HBV9.out.size))).mono ?_; rintro e V10 ⟨B10, d10, rfl, hc9, hm9, ho9, hb9⟩; dsimp only at hc9 ho9; have HW2 : Hid (Below V9.heap.size V9 V10) := hB.trans (hb9.mono hB.size); have HO10 : Hid (Ow V10 V9.heap.size 38 5 B10 dl.length d10) := Ow.of (own_mono ho9 hB.size); clear hB hb9 ho9 hc9 hm9; dsimp only))
  have HB10 := HW2
  clear HW2 HS10
  have HBV10 : Hid (Below V1.heap.size V1 V10) := HBV9.out.trans (HB10.out.mono HBV9.out.size)
  have hd1 : ∀ p, B8 = some p → V7.heap.size ≤ p.block ∧ p.block < V8.heap.size := HO8.out.blk
  have hd2 : ∀ p, B9 = some p → V8.heap.size ≤ p.block ∧ p.block < V9.heap.size := HO9.out.blk
  have hd3 : ∀ p, B10 = some p → V9.heap.size ≤ p.block ∧ p.block < V10.heap.size := HO10.out.blk
  have h17 := HB7.out.size
  have h78 := HB8.out.size
  have h89 := HB9.out.size
  have h9t := HB10.out.size
  have HO7K : Hid (Ow V10 V1.heap.size 36 3 A9 sl.length c9) := ((HO7.out.keep HB8.out.block).keep HB9.out.block).keep HB10.out.block
  have HO8K : Hid (Ow V10 V1.heap.size 38 5 B8 pl.length d8) := by
    have h := (HO8.out.keep HB9.out.block).keep HB10.out.block
    obtain ⟨xs, hx⟩ := h
    exact ⟨xs, own_mono hx h17⟩
  have HO9K : Hid (Ow V10 V1.heap.size 38 5 B9 cl.length d9) := by
    have h := HO9.out.keep HB10.out.block
    obtain ⟨xs, hx⟩ := h
    exact ⟨xs, own_mono hx (by omega)⟩
  have HO10K : Hid (Ow V10 V1.heap.size 38 5 B10 dl.length d10) := by
    obtain ⟨xs, hx⟩ := HO10.out
    exact ⟨xs, own_mono hx (by omega)⟩
  obtain ⟨AA, ha0, ha1, ha2⟩ : ∃ AA : Nat → Option Addr, AA 0 = B8 ∧ AA 1 = B9 ∧ AA 2 = B10 := ⟨fun j => match j with | 0 => B8 | 1 => B9 | _ => B10, rfl, rfl, rfl⟩
  obtain ⟨nn, hn0, hn1, hn2⟩ : ∃ nn : Nat → Nat, nn 0 = pl.length ∧ nn 1 = cl.length ∧ nn 2 = dl.length := ⟨fun j => match j with | 0 => pl.length | 1 => cl.length | _ => dl.length, rfl, rfl, rfl⟩
  obtain ⟨cc, hc0, hc1, hc2⟩ : ∃ cc : Nat → Nat, cc 0 = d8 ∧ cc 1 = d9 ∧ cc 2 = d10 := ⟨fun j => match j with | 0 => d8 | 1 => d9 | _ => d10, rfl, rfl, rfl⟩
  rw [← hn0] at HO8K ⊢
  rw [← hn1] at HO9K ⊢
  rw [← hn2] at HO10K ⊢
  have HNN : Hid (∀ j, j < 3 → nn j ≤ m + 1) := fun j hj => by
    have h : j = 0 ∨ j = 1 ∨ j = 2 := by omega
    rcases h with rfl | rfl | rfl <;> omega
  subst ha0 ha1 ha2 hc0 hc1 hc2
  have HDIS : Hid (∀ i j, i < j → j < 3 → ∀ p q, AA i = some p → AA j = some q → p.block ≠ q.block) := fun i j hij hj p q hp hq => by
    have h : (i = 0 ∧ j = 1) ∨ (i = 0 ∧ j = 2) ∨ (i = 1 ∧ j = 2) := by omega
    rcases h with ⟨rfl, rfl⟩ | ⟨rfl, rfl⟩ | ⟨rfl, rfl⟩
    · have := hd1 p hp; have := hd2 q hq; omega
    · have := hd1 p hp; have := hd3 q hq; omega
    · have := hd2 p hp; have := hd3 q hq; omega
  have HK0 : Hid (KR V1.heap.size V1 AA nn cc 0 V10) := ⟨HB7.out.trans ((HB8.out.trans ((HB9.out.trans (HB10.out.mono h89)).mono h78)).mono h17), fun j _ hj => by
    have h : j = 0 ∨ j = 1 ∨ j = 2 := by omega
    rcases h with rfl | rfl | rfl
    · exact HO8K.out
    · exact HO9K.out
    · exact HO10K.out⟩
  clear hn0 hn1 hn2 hd1 hd2 hd3 h17 h78 h89 h9t HO7 HO8 HO9 HO10 HO8K HO9K HO10K HB7 HB8 HB9 HB10 HS1 HP1 HC1 HD1 hpl hcl hdl HCELL
  go_wp2
  go_loopw [108] (fun i wr => ∃ k : Nat, k ≤ sl.length ∧ i = .int .i64 k ∧ KR V1.heap.size V1 AA nn cc 0 wr ∧ Ow wr V1.heap.size 36 3 A9 sl.length c9) (fun i _ => sl.length - (intOf i).toNat)
  case atStart => exact ⟨0, Nat.zero_le _, rfl, HK0.out, HO7K.out⟩
  case round =>
    obtain ⟨k, hk, rfl, hkr, how⟩ := hrel
    have HKa := Lib.hid hkr
    have HOa := Lib.hid how
    clear hkr how
    rename World => U1
    by_cases hlt : k < sl.length
    · obtain ⟨g, hA, hgL, hgl, hcells⟩ := HOa.out.open (by omega)
      obtain ⟨⟨q0, cc0⟩, zz0⟩ := hcells (k * 3) (by omega)
      obtain ⟨⟨q1, cc1⟩, zz1⟩ := hcells (k * 3 + 1) (by omega)
      obtain ⟨⟨q2, cc2⟩, zz2⟩ := hcells (k * 3 + 2) (by omega)
      clear hcells
      have HSET : Hid (∀ v0 v1 v2, KR V1.heap.size V1 AA nn cc 0 (((U1.setCell ⟨g, k * 3, none⟩ v0).setCell ⟨g, k * 3 + 1, none⟩ v1).setCell ⟨g, k * 3 + 2, none⟩ v2) ∧ Ow (((U1.setCell ⟨g, k * 3, none⟩ v0).setCell ⟨g, k * 3 + 1, none⟩ v1).setCell ⟨g, k * 3 + 2, none⟩ v2) V1.heap.size 36 3 A9 sl.length c9) := fun v0 v1 v2 =>
        ⟨((HKa.out.set hgL _ v0).set hgL _ v1).set hgL _ v2, ((HOa.out.set g _ v0).set g _ v1).set g _ v2⟩
      subst hA
      have i2 : (k : Int) < (sl.length : Int) := by omega
      have i3 : (0 : Int) ≤ (k : Int) := by omega
      have i4 : IntKind.i64.wrap ((k : Int) + 1) = (k : Int) + 1 := IntWalk.i64_in _ (by omega)
      go_wp2_with fail
      exact ⟨⟨k + 1, by omega, by push_cast; rfl, HSET.out _ _ _⟩, by simp only [intOf]; omega⟩
    have i5 : ¬ ((k : Int) < (sl.length : Int)) := by omega
    obtain ⟨xs1, hx1⟩ := HOa.out
    have HXA := Lib.hid hx1
    have HBU1 := Lib.hid HKa.out.bl
    have hs1 : V1.heap.size ≤ U1.heap.size := HBU1.out.size
    clear hx1
    have h000 : ∀ V : World, Rd (V.alloc (.cells #[.int .i64 0, .int .i64 0, .int .i64 0, .int .i64 0, .int .i64 0, .int .i64 0, .int .i64 0, .int .i64 0, .int .i64 0] 36)) (V.heap.size + 1) 3 (some ⟨V.heap.size, 0, none⟩) 3 [.int .i64 0, .int .i64 0, .int .i64 0, .int .i64 0, .int .i64 0, .int .i64 0, .int .i64 0, .int .i64 0, .int .i64 0] := fun V => rd_blk (Bk.new _ _ _) rfl
    go_upto_region 17 with (at_builtin; refine wpList_append_rd _ rfl (.tmp 116) (.tmp 120) _ rfl V1.heap.size 36 i0 _ 3 24 Try.underlying22 hif y0 y1 y2 rfl (by omega) _ sl.length xs1 rfl (HXA.out.alloc _) _ _ 3 3 _ rfl (h000 _) (by simp [Value.oneCell']) (by unfold maxLen; omega) (by omega) (by simp; omega) ?_; intro A13 c13 U4 _ _ hown5 hg5 hat5; clear hown5 hat5; have HG5 := Lib.hid hg5; clear hg5)
    have HK4 : Hid (KR V1.heap.size V1 AA nn cc 0 U4) := ⟨(HBU1.out.alloc hs1 _).grown HG5.out (by simp; omega) (fun b hb => (HXA.out.lt b hb).1), fun j h1 h2 => by
      obtain ⟨xs, hx⟩ := (HKa.out.rows j h1 h2).alloc (.cells #[.int .i64 0, .int .i64 0, .int .i64 0, .int .i64 0, .int .i64 0, .int .i64 0, .int .i64 0, .int .i64 0, .int .i64 0] 36)
      exact ⟨xs, own_keep hx fun p hp => HG5.out.block _ (own_lt hx p hp).2 (own_ne_type (HXA.out.alloc _) hx (by decide) p hp)⟩⟩
    clear HG5 HXA h000 HBU1 HKa HOa hs1
    have hs4 : V1.heap.size ≤ U4.heap.size := HK4.out.bl.size
    obtain ⟨U5, hU5⟩ : ∃ U5, U5 = U4.alloc (.cells #[.slice (AA 0) (nn 0) (cc 0), .slice (AA 1) (nn 1) (cc 1), .slice (AA 2) (nn 2) (cc 2)] 32) := ⟨_, rfl⟩
    obtain ⟨gs, hgs⟩ : ∃ gs, gs = U4.heap.size := ⟨_, rfl⟩
    have HGS : Hid (Bk U5 gs 32 #[.slice (AA 0) (nn 0) (cc 0), .slice (AA 1) (nn 1) (cc 1), .slice (AA 2) (nn 2) (cc 2)]) := by rw [hU5, hgs]; exact Bk.new _ _ _
    have HK5 : Hid (KR V1.heap.size V1 AA nn cc 0 U5) := by
      rw [hU5]
      exact ⟨HK4.out.bl.alloc hs4 _, fun j h1 h2 => (HK4.out.rows j h1 h2).alloc _⟩
    go_upto_region 18 with (fail)
    rw [← hU5, ← hgs]
    clear hU5 hgs HK4 hs4
    go_loopw [127] (fun i wr => ∃ k : Nat, k ≤ 3 ∧ i = .int .i64 k ∧ KR V1.heap.size V1 AA nn cc k wr ∧ Bk wr gs 32 #[.slice (AA 0) (nn 0) (cc 0), .slice (AA 1) (nn 1) (cc 1), .slice (AA 2) (nn 2) (cc 2)]) (fun i _ => 3 - (intOf i).toNat)
    case atStart => exact ⟨0, Nat.zero_le _, rfl, HK5.out, HGS.out⟩
    case round =>
      obtain ⟨k2, hk2, rfl, hkr, hgk⟩ := hrel
      have HKb := Lib.hid hkr
      have HGb := Lib.hid hgk
      clear hkr hgk
      rename World => U6
      by_cases hlt2 : k2 < 3
      · have hcell : U6.cell? ⟨gs, k2, none⟩ = some (.slice (AA k2) (nn k2) (cc k2)) := by
          have h := HGb.out.three
          have h3 : k2 = 0 ∨ k2 = 1 ∨ k2 = 2 := by omega
          rcases h3 with rfl | rfl | rfl
          · exact h.1
          · exact h.2.1
          · exact h.2.2.1
        obtain ⟨hrow, hhrow⟩ : ∃ R, R = HKb.out.rows k2 (Nat.le_refl _) hlt2 := ⟨_, rfl⟩
        clear hhrow
        have hrow' := HKb.out.rows k2 (Nat.le_refl _) hlt2
        have hnk := HNN.out k2 hlt2
        obtain ⟨AK, hAK⟩ : ∃ AK, AK = AA k2 := ⟨_, rfl⟩
        obtain ⟨nk, hnk'⟩ : ∃ nk, nk = nn k2 := ⟨_, rfl⟩
        obtain ⟨ck, hck⟩ : ∃ ck, ck = cc k2 := ⟨_, rfl⟩
        rw [← hAK, ← hnk', ← hck] at hcell hrow'
        rw [← hnk'] at hnk
        have HAK := Lib.hid hAK
        have HROW := Lib.hid hrow'
        clear hAK hnk' hck hrow'
        have HK6 : Hid (KR V1.heap.size V1 AA nn cc (k2 + 1) U6) := ⟨HKb.out.bl, fun j h1 h2 => HKb.out.rows j (by omega) h2⟩
        have j1 : (k2 : Int) < 3 := by omega
        have j2 : (0 : Int) ≤ (k2 : Int) := by omega
        have j3 : IntKind.i64.wrap ((k2 : Int) + 1) = (k2 : Int) + 1 := IntWalk.i64_in _ (by omega)
        go_wp2
        go_loopw [133] (fun i wr => ∃ k : Nat, k ≤ nk ∧ i = .int .i64 k ∧ KR V1.heap.size V1 AA nn cc (k2 + 1) wr ∧ Ow wr V1.heap.size 38 5 AK nk ck ∧ Bk wr gs 32 #[.slice (AA 0) (nn 0) (cc 0), .slice (AA 1) (nn 1) (cc 1), .slice (AA 2) (nn 2) (cc 2)]) (fun i _ => nk - (intOf i).toNat)
        case atStart => exact ⟨0, Nat.zero_le _, rfl, HK6.out, HROW.out, HGb.out⟩
        case round =>
          obtain ⟨k3, hk3, rfl, hkr, how, hgk⟩ := hrel
          have HKc := Lib.hid hkr
          have HOc := Lib.hid how
          have HGc := Lib.hid hgk
          clear hkr how hgk
          rename World => U7
          by_cases hlt3 : k3 < nk
          · obtain ⟨g, hA, hgL, hgl, hcells⟩ := HOc.out.open (by omega)
            obtain ⟨⟨q0, cc0⟩, zz0⟩ := hcells (k3 * 5) (by omega)
            obtain ⟨⟨q1, cc1⟩, zz1⟩ := hcells (k3 * 5 + 1) (by omega)
            obtain ⟨⟨q2, cc2⟩, zz2⟩ := hcells (k3 * 5 + 2) (by omega)
            obtain ⟨⟨q3, cc3⟩, zz3⟩ := hcells (k3 * 5 + 3) (by omega)
            obtain ⟨⟨q4, cc4⟩, zz4⟩ := hcells (k3 * 5 + 4) (by omega)
            clear hcells
            have hgg : gs ≠ g := by
              obtain ⟨xs, hx⟩ := HOc.out
              have := own_ne_bk hx HGc.out (by decide)
              rw [hA] at this
              intro he
              exact this (by rw [he]; rfl)
            have HSET : Hid (∀ v0 v1 v2 v3 v4, KR V1.heap.size V1 AA nn cc (k2 + 1) (((((U7.setCell ⟨g, k3 * 5, none⟩ v0).setCell ⟨g, k3 * 5 + 1, none⟩ v1).setCell ⟨g, k3 * 5 + 2, none⟩ v2).setCell ⟨g, k3 * 5 + 3, none⟩ v3).setCell ⟨g, k3 * 5 + 4, none⟩ v4) ∧ Ow (((((U7.setCell ⟨g, k3 * 5, none⟩ v0).setCell ⟨g, k3 * 5 + 1, none⟩ v1).setCell ⟨g, k3 * 5 + 2, none⟩ v2).setCell ⟨g, k3 * 5 + 3, none⟩ v3).setCell ⟨g, k3 * 5 + 4, none⟩ v4) V1.heap.size 38 5 AK nk ck ∧ Bk (((((U7.setCell ⟨g, k3 * 5, none⟩ v0).setCell ⟨g, k3 * 5 + 1, none⟩ v1).setCell ⟨g, k3 * 5 + 2, none⟩ v2).setCell ⟨g, k3 * 5 + 3, none⟩ v3).setCell ⟨g, k3 * 5 + 4, none⟩ v4) gs 32 #[.slice (AA 0) (nn 0) (cc 0), .slice (AA 1) (nn 1) (cc 1), .slice (AA 2) (nn 2) (cc 2)]) := fun v0 v1 v2 v3 v4 =>
              ⟨((((HKc.out.set hgL _ v0).set hgL _ v1).set hgL _ v2).set hgL _ v3).set hgL _ v4, ((((HOc.out.set g _ v0).set g _ v1).set g _ v2).set g _ v3).set g _ v4,
                ((((HGc.out.far (p := ⟨g, k3 * 5, none⟩) hgg v0).far (p := ⟨g, k3 * 5 + 1, none⟩) hgg v1).far (p := ⟨g, k3 * 5 + 2, none⟩) hgg v2).far (p := ⟨g, k3 * 5 + 3, none⟩) hgg v3).far (p := ⟨g, k3 * 5 + 4, none⟩) hgg v4⟩
            subst hA
            have i2 : (k3 : Int) < (nk : Int) := by omega
            have i3 : (0 : Int) ≤ (k3 : Int) := by omega
            have i4 : IntKind.i64.wrap ((k3 : Int) + 1) = (k3 : Int) + 1 := IntWalk.i64_in _ (by omega)
            clear hgg
            go_wp2_with fail
            exact ⟨⟨k3 + 1, by omega, by push_cast; rfl, HSET.out _ _ _ _ _⟩, by simp only [intOf]; omega⟩
          have i7 : ¬ ((k3 : Int) < (nk : Int)) := by omega
          obtain ⟨xs3, hx3⟩ := HOc.out
          have HXC := Lib.hid hx3
          have HBU7 := Lib.hid HKc.out.bl
          have hs7 : V1.heap.size ≤ U7.heap.size := HBU7.out.size
          clear hx3
          have h000 : ∀ V : World, Rd (V.alloc (.cells #[.int .i64 0, .int .i64 0, .int .i64 0, .int .i64 0, .int .i64 0, .int .i64 0, .int .i64 0, .int .i64 0, .int .i64 0, .int .i64 0, .int .i64 0, .int .i64 0, .int .i64 0, .int .i64 0, .int .i64 0] 38)) (V.heap.size + 1) 5 (some ⟨V.heap.size, 0, none⟩) 3 [.int .i64 0, .int .i64 0, .int .i64 0, .int .i64 0, .int .i64 0, .int .i64 0, .int .i64 0, .int .i64 0, .int .i64 0, .int .i64 0, .int .i64 0, .int .i64 0, .int .i64 0, .int .i64 0, .int .i64 0] := fun V => rd_blk (Bk.new _ _ _) rfl
          go_upto_region 26 with (at_builtin; refine wpList_append_rd _ rfl (.tmp 141) (.tmp 145) _ rfl V1.heap.size 38 k0 _ 5 40 Try.underlying32 hkf u0 u1 u2 rfl (by omega) _ nk xs3 rfl (HXC.out.alloc _) _ _ 3 3 _ rfl (h000 _) (by simp [Value.oneCell']) (by unfold maxLen; omega) (by omega) (by simp; omega) ?_; intro A15 c15 U8 _ _ hown7 hg7 hat7; clear hown7 hat7; have HG7 := Lib.hid hg7; clear hg7)
          have HK8 : Hid (KR V1.heap.size V1 AA nn cc (k2 + 1) U8) := ⟨(HBU7.out.alloc hs7 _).grown HG7.out (by simp; omega) (fun b hb => (HXC.out.lt b hb).1), fun j h1 h2 => by
            obtain ⟨xs, hx⟩ := (HKc.out.rows j h1 h2).alloc (.cells #[.int .i64 0, .int .i64 0, .int .i64 0, .int .i64 0, .int .i64 0, .int .i64 0, .int .i64 0, .int .i64 0, .int .i64 0, .int .i64 0, .int .i64 0, .int .i64 0, .int .i64 0, .int .i64 0, .int .i64 0] 38)
            refine ⟨xs, own_keep hx fun p hp => HG7.out.block _ (own_lt hx p hp).2 (fun he => ?_)⟩
            rcases AK with _ | pa
            · cases he
            · have e5 : p.block = pa.block := Option.some.inj he
              exact HDIS.out k2 j (by omega) h2 pa p HAK.out.symm hp e5.symm⟩
          have HG8 : Hid (Bk U8 gs 32 #[.slice (AA 0) (nn 0) (cc 0), .slice (AA 1) (nn 1) (cc 1), .slice (AA 2) (nn 2) (cc 2)]) := (HGc.out.alloc _).grown HG7.out (own_ne_bk HXC.out HGc.out (by decide))
          clear HG7 HXC h000 HBU7 HKc HOc HGc hs7
          have m1 : ¬ ((nk : Int) + 3 < 3) := by omega
          go_wp2
          exact ⟨⟨k2 + 1, by omega, by push_cast; rfl, HK8.out, HG8.out⟩, by simp only [intOf]; omega⟩
      have hk23 : k2 = 3 := by omega
      subst hk23
      have HBU6 := Lib.hid HKb.out.bl
      have HBWU : Hid (Below W.heap.size W U6) := HBV1.out.trans (HBU6.out.mono HBV1.out.size)
      clear HKb HGb
      obtain ⟨a2, hA2, _, v0⟩ := (HRV.out U6 HBU6.out).cell (j := n * 3) (u := .int .i64 71) (by rw [List.getElem?_append_right (by rw [P.lcs_len, HAL.out]; omega), P.lcs_len, HAL.out, Nat.sub_self]; rfl)
      obtain ⟨a2', hA2', _, v1⟩ := (HRV.out U6 HBU6.out).cell (j := (n + 1) * 3) (u := .int .i64 72) (by rw [List.getElem?_append_right (by rw [P.lcs_len, HAL.out]; omega), P.lcs_len, HAL.out, show (n + 1) * 3 - n * 3 = 3 by omega]; rfl)
      have ea : a2' = a2 := Option.some.inj (hA2'.symm.trans hA2)
      subst ea
      obtain ⟨b2, hB2, _, r0⟩ := (HRW.out U6 HBU6.out).cell (j := m * 5) (u := .int .i64 73) (by rw [List.getElem?_append_right (by rw [O.lcs_len, HLL.out]; omega), O.lcs_len, HLL.out, Nat.sub_self]; rfl)
      obtain ⟨b2', hB2', _, r1⟩ := (HRW.out U6 HBU6.out).cell (j := (m + 1) * 5) (u := .int .i64 74) (by rw [List.getElem?_append_right (by rw [O.lcs_len, HLL.out]; omega), O.lcs_len, HLL.out, show (m + 1) * 5 - m * 5 = 5 by omega]; rfl)
      have eb : b2' = b2 := Option.some.inj (hB2'.symm.trans hB2)
      subst eb
      have hs12 := P.same_any A2 A n c2 c av U6 HAL.out (by unfold maxLen; omega) (HRVn.out U6 HBU6.out) (HRA.out U6 HBWU.out)
      have hs17 := fun q : Nat => O.same_any B2 B m d2 d l (U6.drewN q) HLL.out (by unfold maxLen; omega) (HRWm.out U6 HBU6.out) (HRL.out U6 HBWU.out)
      have HS12 := Lib.hid hs12
      have HS17 := Lib.hid hs17
      clear hs12 hs17 hA2' hB2'
      rw [hA2] at HS12 ⊢
      rw [hB2] at HS17 ⊢
      have n1 : IntKind.i64.wrap ((n : Int) + 1) = (n : Int) + 1 := IntWalk.i64_in _ (by omega)
      have n2 : ((n : Int) + 1).toNat = n + 1 := by omega
      have n3 : (0 : Int) ≤ (n : Int) + 1 := by omega
      have n4 : (n : Int) < (n : Int) + 2 := by omega
      have n5 : (n : Int) + 1 < (n : Int) + 2 := by omega
      have m1 : IntKind.i64.wrap ((m : Int) + 1) = (m : Int) + 1 := IntWalk.i64_in _ (by omega)
      have m2 : ((m : Int) + 1).toNat = m + 1 := by omega
      have m3 : (0 : Int) ≤ (m : Int) + 1 := by omega
      have m4 : (m : Int) < (m : Int) + 2 := by omega
      have m5 : (m : Int) + 1 < (m : Int) + 2 := by omega
      have m6 : (3 : Int) ≤ (sl.length : Int) + 3 := by omega
      go_wp2_with fail
      refine HS12.out.mono ?_
      rintro e U9 ⟨rfl, q7, rfl⟩
      go_wp2_with fail
      refine (HS17.out q7).mono ?_
      rintro e U10 ⟨rfl, q8, rfl⟩
      go_wp2
      go_ret
      refine ⟨rfl, HFIN.out _ ?_⟩
      have h7 := HBWU.out
      exact ⟨h7.os, h7.tape, h7.output, h7.size, h7.block⟩

end Go.Proofs.Ytiapbgbbeakoiaa
