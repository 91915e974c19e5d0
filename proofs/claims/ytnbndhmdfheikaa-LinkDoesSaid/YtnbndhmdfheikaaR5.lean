/- Walk: Take of the document, by gen_rtake.py. -/
import Derived.Test.YtnbndhmdfheikaaR1
namespace Go.Proofs.Ytnbndhmdfheikaa
open Go.RowKit

section
variable (A : Option Addr) (n c : Nat) (ss : List ByteArray) (tk kn t : Int) (b : ByteArray) (w : World)
/-- How many frames there are behind k rounds. -/
def cnt (num : Int) (k : Nat) : Nat := min 64 (k + 1 - num.toNat)
/-- The loop's relation behind k rounds. -/
def RAt (W : World) (s : Sd) (num : Int) (k : Nat) (wr : World) (v : Value) : Prop :=
  (∃ A c, v = .slice A (cnt num k) c) ∧ wr.ownsRow W.heap.size 44 4 v (cnt num k) (frs ((List.range (cnt num k)).map fun i : Nat => s.data (num + i))) ∧ Below W.heap.size W wr

set_option maxHeartbeats 1000000 in
theorem rtake_ask_a (num : Int) (hnm : n ≤ maxLen) (hln : ss.length = n) (hr : Rd w w.heap.size 1 A n (ss.map Value.string)) (hg : goodB ⟨ss, tk, kn⟩ = true) (hv : validB ⟨2, num, t, b⟩ = true) (hn : n ≤ 256) (h1 : 1 ≤ num) (h2 : num ≤ 1099511627776) (k1 : kn < t) (k2 : t ≤ n) :
    Calls Try.prog 47 #[sideVal (.slice A n c) ⟨ss, tk, kn⟩, (Fr.mk 2 num t b).val] w (TakeOut w ⟨⟨ss, tk, t⟩, noBytes, (Sd.mk ss tk t).again num, 0⟩) := by
  obtain ⟨i0, hi, hz0, hzs, hz2⟩ := info_parts info44
  obtain ⟨W, hW⟩ : ∃ W, W = ((w.alloc (.cells #[.slice A n c, .int .i64 tk, .int .i64 kn] 33)).alloc (.cells #[.int .i64 2, .int .i64 num, .int .i64 t, .string b] 44)).alloc (.cells #[.slice none 0 0, .int .i64 0, .int .i64 0] 33) := ⟨_, rfl⟩
  have hrW : Rd W W.heap.size 1 A n (ss.map Value.string) := by rw [hW]; exact (((hr.alloc (Nat.le_refl _) _).alloc (by simp) _).alloc (by simp; omega) _).mono (by simp; omega)
  have hB : B0 W w.heap.size (.slice A n c) (.int .i64 tk) (.int .i64 kn) (.int .i64 2) (.int .i64 num) (.int .i64 t) (.string b) := by rw [hW]; exact B0.new _ _ _ _ _ _ _ _
  have hz : W.heap.size = w.heap.size + 1 + 1 + 1 := by rw [hW]; simp
  have hbl : Below w.heap.size w W := by rw [hW]; exact (((Below.refl _ w).alloc (Nat.le_refl _) _).alloc (by simp) _).alloc (by simp; omega) _
  have HRW := Lib.hid hrW
  have HB := Lib.hid hB
  have HZ := Lib.hid hz
  have HL := Lib.hid hbl
  have HG := Lib.hid hg
  clear hB hz hbl hg hr hrW
  unfold sideVal Fr.val
  go_enter Try.func47, Try.ntmps47
  go_wp2_with fail
  rw [← hW]
  clear hW
  refine (rgood_any A n c ⟨ss, tk, kn⟩ W hnm HRW.out).mono ?_
  rintro e w1 ⟨rfl, hb1⟩
  have HR1 : Hid (Rd w1 w1.heap.size 1 A n (ss.map Value.string)) := (HRW.out.below hb1).mono hb1.size
  have HB1 := Lib.hid hb1
  have HC1 : Hid (B0 w1 w.heap.size (.slice A n c) (.int .i64 tk) (.int .i64 kn) (.int .i64 2) (.int .i64 num) (.int .i64 t) (.string b)) := HB.out.below hb1 (by have := HZ.out; omega)
  clear hb1
  obtain ⟨⟨q0, q1, q2, z0, z1, z2⟩, ⟨f0, f1, f2, f3⟩, ⟨r0, r1, r2, y0, y1, y2⟩, hs⟩ := HC1.out.out
  rw [HG.out]
  have HV := Lib.hid hv
  clear hv
  go_wp2_with fail
  refine (rvalid_any ⟨2, num, t, b⟩ w1).mono ?_
  rintro e w2 ⟨rfl, hb2⟩
  clear q0 q1 q2 z0 z1 z2 f0 f1 f2 f3 r0 r1 r2 y0 y1 y2 hs
  have HR2 : Hid (Rd w2 w2.heap.size 1 A n (ss.map Value.string)) := (HR1.out.below hb2).mono hb2.size
  have HB2 := Lib.hid hb2
  have HC2 : Hid (B0 w2 w.heap.size (.slice A n c) (.int .i64 tk) (.int .i64 kn) (.int .i64 2) (.int .i64 num) (.int .i64 t) (.string b)) := HC1.out.below hb2 (by have := HC1.out.2.2.lt; omega)
  clear hb2
  obtain ⟨⟨q0, q1, q2, z0, z1, z2⟩, ⟨f0, f1, f2, f3⟩, ⟨r0, r1, r2, y0, y1, y2⟩, hs⟩ := HC2.out.out
  rw [HV.out]
  have HLN := Lib.hid hln
  clear hln
  go_wp2_with fail
  refine (rcopied_any A n c ⟨ss, tk, kn⟩ w2 (by omega) HR2.out).mono ?_
  rintro e w3 ⟨A1, c1, rfl, hn1, hm1, hown, hb3⟩
  have hs2 := Lib.hid hs
  clear q0 q1 q2 z0 z1 z2 f0 f1 f2 f3 r0 r1 r2 y0 y1 y2 hs
  have HB3 := Lib.hid hb3
  have HC3 : Hid (B0 w3 w.heap.size (.slice A n c) (.int .i64 tk) (.int .i64 kn) (.int .i64 2) (.int .i64 num) (.int .i64 t) (.string b)) := HC2.out.below hb3 (by have := HC2.out.2.2.lt; omega)
  have HO : Hid (w3.ownsRow w2.heap.size 9 1 (.slice A1 n c1) n (ss.map Value.string)) := by have := HLN.out; dsimp only at hown; rw [this] at hown; exact hown
  have HR3 : Hid (Rd w3 w3.heap.size 1 A n (ss.map Value.string)) := (HR2.out.below hb3).mono hb3.size
  have hlow : w.heap.size + 1 + 1 < w2.heap.size := hs2.out
  have hlow3 : w2.heap.size ≤ w3.heap.size := hb3.size
  clear hb3 hown
  obtain ⟨⟨q0, q1, q2, z0, z1, z2⟩, ⟨f0, f1, f2, f3⟩, ⟨r0, r1, r2, y0, y1, y2⟩, hs⟩ := HC3.out.out
  have hg3 : w.heap.size < w3.heap.size := by omega
  have hg4 : w.heap.size + 1 < w3.heap.size := by omega
  have hg5 : w.heap.size + 1 + 1 < w3.heap.size := by omega
  dsimp only at hn1 ⊢
  rw [HLN.out] at hn1 ⊢
  unfold sideVal
  go_upto_region 9 with (fail)
  obtain ⟨W4, hW4⟩ : ∃ W4, W4 = w3.alloc (.cells #[.slice A1 n c1, .int .i64 tk, .int .i64 t] 33) := ⟨_, rfl⟩
  have HC4 : Hid (B0 W4 w.heap.size (.slice A n c) (.int .i64 tk) (.int .i64 kn) (.int .i64 2) (.int .i64 num) (.int .i64 t) (.string b)) := by rw [hW4]; exact HC3.out.alloc _
  have HK4 : Hid (Bk W4 w3.heap.size 33 #[.slice A1 n c1, .int .i64 tk, .int .i64 t]) := by rw [hW4]; exact Bk.new _ _ _
  have HO4 : Hid (W4.ownsRow w2.heap.size 9 1 (.slice A1 n c1) n (ss.map Value.string)) := by rw [hW4]; exact HO.out.alloc _
  have HB4 : Hid (Below w.heap.size w W4) := by
    rw [hW4]
    exact (HL.out.trans (((HB1.out.trans (HB2.out.mono HB1.out.size)).trans (HB3.out.mono (Nat.le_trans HB1.out.size HB2.out.size))).mono (by have := HZ.out; omega))).alloc (by omega) _
  have HR4 : Hid (Rd W4 w3.heap.size 1 A n (ss.map Value.string)) := by rw [hW4]; exact HR3.out.alloc (Nat.le_refl _) _
  have hz4 : w3.heap.size < W4.heap.size := by rw [hW4]; simp
  rw [← hW4]
  clear hW4 q0 q1 q2 z0 z1 z2 f0 f1 f2 f3 r0 r1 r2 y0 y1 y2 hs
  obtain ⟨⟨q0, q1, q2, z0, z1, z2⟩, ⟨f0, f1, f2, f3⟩, ⟨r0, r1, r2, y0, y1, y2⟩, hs⟩ := HC4.out.out
  obtain ⟨o0, o1, o2, x0, x1, x2, hx⟩ := HK4.out.three
  go_wp2_with fail
  go_loopw [9, 44] (fun v i wr => ∃ k : Nat, k ≤ n ∧ i = .int .i64 k ∧ RAt W4 ⟨ss, tk, t⟩ num k wr v) (fun _ i _ => n - (intOf i).toNat)
  case atStart =>
    have e0 : cnt num 0 = 0 := by unfold cnt; omega
    exact ⟨0, Nat.zero_le _, rfl, by rw [RAt, e0]; exact ⟨⟨none, 0, rfl⟩, World.ownsRow_nil _ _ _ _, Below.refl _ _⟩⟩
  case round =>
    obtain ⟨k, hk, rfl, ⟨A5, c5, rfl⟩, hown5, hb5⟩ := hrel
    have HO5 := Lib.hid hown5
    have HB5 := Lib.hid hb5
    have HC5 : Hid (B0 wr w.heap.size (.slice A n c) (.int .i64 tk) (.int .i64 kn) (.int .i64 2) (.int .i64 num) (.int .i64 t) (.string b)) := HC4.out.below hb5 (by omega)
    have HK5 : Hid (Bk wr w3.heap.size 33 #[.slice A1 n c1, .int .i64 tk, .int .i64 t]) := HK4.out.below hb5 hz4
    clear hown5 hb5
    clear q0 q1 q2 z0 z1 z2 f0 f1 f2 f3 r0 r1 r2 y0 y1 y2 hs o0 o1 o2 x0 x1 x2 hx; obtain ⟨⟨q0, q1, q2, z0, z1, z2⟩, ⟨f0, f1, f2, f3⟩, ⟨r0, r1, r2, y0, y1, y2⟩, hs⟩ := HC5.out.out; obtain ⟨o0, o1, o2, x0, x1, x2, hx⟩ := HK5.out.three
    by_cases hlt : k < n
    · have hlt' : k < ss.length := by have := HLN.out; omega
      have hc64 : cnt num k ≤ 64 := by unfold cnt; omega
      obtain ⟨a, rfl, _, ca⟩ := (HR4.out.below (HB5.out.mono (Nat.le_of_lt hz4))).cell (j := k) (u := .string (ss[k])) (by simp)
      by_cases hA : num ≤ (k : Int) + 1
      · by_cases hB : cnt num k < 64
        · have hcn : cnt num (k + 1) = cnt num k + 1 := by unfold cnt at hB ⊢; omega
          have hnk : num + (cnt num k : Int) = (k : Int) + 1 := by unfold cnt at hB ⊢; omega
          have hdat : Sd.data ⟨ss, tk, t⟩ (num + (cnt num k : Int)) = ⟨1, (k : Int) + 1, tk, ss[k]⟩ := by
            rw [hnk]
            simp [Sd.data, Sd.msg, List.getD, List.getElem?_eq_getElem hlt']
          have HD := Lib.hid hdat
          have HCN := Lib.hid hcn
          generalize hj : cnt num k = j at *
          have HJ := Lib.hid hj
          clear hdat hcn hnk hj
          have ho6 : (wr.alloc (.cells #[.int .i64 1, .int .i64 ((k : Int) + 1), .int .i64 tk, .string ss[k]] 44)).ownsRow W4.heap.size 44 4 (.slice A5 j c5) j (frs ((List.range j).map fun i : Nat => Sd.data ⟨ss, tk, t⟩ (num + i))) := HO5.out.alloc _
          have hr6 : Rd (wr.alloc (.cells #[.int .i64 1, .int .i64 ((k : Int) + 1), .int .i64 tk, .string ss[k]] 44)) (wr.heap.size + 1) 4 (some ⟨wr.heap.size, 0, none⟩) 1 (Fr.mk 1 ((k : Int) + 1) tk ss[k]).cells :=
            ⟨rfl, fun _ => ⟨_, rfl, by simp, World.news_of_block (fr := (0, 0)) (t := 44) (cs := #[.int .i64 1, .int .i64 ((k : Int) + 1), .int .i64 tk, .string ss[k]]) (heap_alloc_new wr _)⟩⟩
          have hbs : W4.heap.size ≤ wr.heap.size := HB5.out.size
          go_wp2_with (at_builtin; go_must (refine wpList_append_rd _ rfl (.tmp 59) (.tmp 66) _ rfl W4.heap.size 44 i0 _ 4 40 Try.underlying38 hi hz0 hzs hz2 rfl (by omega) _ j _ rfl ho6 (wr.heap.size + 1) _ 1 1 _ rfl hr6 (cells_one _) (by simp only [maxLen]; omega) (by omega) (by simp; omega) ?_); intro A6 c6 w6 hc6 hm6 hown6 hg6 hat6; have HO6 := Lib.hid hown6; have HG6 := Lib.hid hg6; clear hown6 hg6 hat6)
          go_roundw
          case rel =>
            refine ⟨k + 1, by omega, by go_num, ?_⟩
            rw [RAt, HCN.out]
            refine ⟨⟨A6, c6, rfl⟩, ?_, ?_⟩
            · rw [List.range_succ, List.map_append, frs_append]
              have h1 := HO6.out
              have h2 := HD.out
              simpa [frs, h2] using h1
            · exact (HB5.out.alloc hbs _).grown HG6.out (by simp; omega) (fun g hg => (ho6.lt g hg).1)
          case measure => simp [intOf]; omega
        · have hcn : cnt num (k + 1) = cnt num k := by unfold cnt at hB ⊢; omega
          have hB' : ¬ ((cnt num k : Int) < 64) := by omega
          have HCN := Lib.hid hcn
          clear hcn
          generalize hj : cnt num k = j at *
          have HJ := Lib.hid hj
          clear hj
          go_wp2
          go_roundw
          case rel =>
            refine ⟨k + 1, by omega, by go_num, ?_⟩
            rw [RAt, HCN.out]
            exact ⟨⟨A5, c5, rfl⟩, HO5.out, HB5.out⟩
          case measure => simp [intOf]; omega
      · have hcn : cnt num (k + 1) = cnt num k := by unfold cnt; omega
        have HCN := Lib.hid hcn
        clear hcn
        generalize hj : cnt num k = j at *
        have HJ := Lib.hid hj
        clear hj
        go_wp2
        go_roundw
        case rel =>
          refine ⟨k + 1, by omega, by go_num, ?_⟩
          rw [RAt, HCN.out]
          exact ⟨⟨A5, c5, rfl⟩, HO5.out, HB5.out⟩
        case measure => simp [intOf]; omega
    · have hkn : k = n := by omega
      have hfin : (Sd.mk ss tk t).again num = (List.range (cnt num k)).map fun i : Nat => Sd.data ⟨ss, tk, t⟩ (num + i) := by
        have := HLN.out
        unfold Sd.again cnt
        dsimp only
        rw [this, hkn]
      have HF := Lib.hid hfin
      clear hkn hfin
      generalize hj : cnt num k = j at *
      have HJ := Lib.hid hj
      clear hj
      have hlen : ((Sd.mk ss tk t).again num).length = j := by rw [HF.out]; simp
      have HLE := Lib.hid hlen
      have hfm := own_form HO5.out
      have HFM := Lib.hid hfm
      clear hlen hfm
      go_wp2
      obtain ⟨A', c', he, h5, h6⟩ := HFM.out
      injection he with _ _ he
      subst he
      refine bodyPost_ret (v := .tuple #[sideVal (.slice A1 n c1) ⟨ss, tk, t⟩, .string noBytes, .slice A5 j c5, .int .i64 0]) (by simp [results, Try.results47, go_sem, sideVal, r0, r1, r2, noBytes]) rfl ⟨A1, c1, A5, c5, (by dsimp only; rw [HLN.out, HLE.out]), by dsimp only; rw [HLN.out]; exact hn1, hm1, by dsimp only; rw [HLE.out]; exact h5, h6, ?_, ?_, ?_⟩
      · dsimp only
        rw [HLN.out]
        refine own_mono (base := w2.heap.size) ?_ (by omega)
        repeat (refine ownsRow_setCell_below ?_ (by first | (simp; omega) | (simp; done)) _)
        exact HO4.out.kept (row := none) ⟨HB5.out.os, HB5.out.tape, HB5.out.output, HB5.out.size, fun j hj _ => HB5.out.block j hj⟩ (by cases (Value.slice A1 n c1).ownBlock <;> simp)
      · dsimp only
        rw [HLE.out, HF.out]
        refine own_mono (base := W4.heap.size) ?_ (by omega)
        repeat (refine ownsRow_setCell_below ?_ (by first | (simp; omega) | (simp; done)) _)
        exact HO5.out
      · repeat (refine Below.setCell ?_ (by first | (simp; done) | (simp; omega)) _)
        exact HB4.out.trans (HB5.out.mono HB4.out.size)


set_option maxHeartbeats 1000000 in
theorem rtake_ask_b (num : Int) (hnm : n ≤ maxLen) (hln : ss.length = n) (hr : Rd w w.heap.size 1 A n (ss.map Value.string)) (hg : goodB ⟨ss, tk, kn⟩ = true) (hv : validB ⟨2, num, t, b⟩ = true) (hn : n ≤ 256) (h1 : 1 ≤ num) (h2 : num ≤ 1099511627776) (k1 : t ≤ kn) :
    Calls Try.prog 47 #[sideVal (.slice A n c) ⟨ss, tk, kn⟩, (Fr.mk 2 num t b).val] w (TakeOut w ⟨⟨ss, tk, kn⟩, noBytes, (Sd.mk ss tk kn).again num, 0⟩) := by
  obtain ⟨i0, hi, hz0, hzs, hz2⟩ := info_parts info44
  obtain ⟨W, hW⟩ : ∃ W, W = ((w.alloc (.cells #[.slice A n c, .int .i64 tk, .int .i64 kn] 33)).alloc (.cells #[.int .i64 2, .int .i64 num, .int .i64 t, .string b] 44)).alloc (.cells #[.slice none 0 0, .int .i64 0, .int .i64 0] 33) := ⟨_, rfl⟩
  have hrW : Rd W W.heap.size 1 A n (ss.map Value.string) := by rw [hW]; exact (((hr.alloc (Nat.le_refl _) _).alloc (by simp) _).alloc (by simp; omega) _).mono (by simp; omega)
  have hB : B0 W w.heap.size (.slice A n c) (.int .i64 tk) (.int .i64 kn) (.int .i64 2) (.int .i64 num) (.int .i64 t) (.string b) := by rw [hW]; exact B0.new _ _ _ _ _ _ _ _
  have hz : W.heap.size = w.heap.size + 1 + 1 + 1 := by rw [hW]; simp
  have hbl : Below w.heap.size w W := by rw [hW]; exact (((Below.refl _ w).alloc (Nat.le_refl _) _).alloc (by simp) _).alloc (by simp; omega) _
  have HRW := Lib.hid hrW
  have HB := Lib.hid hB
  have HZ := Lib.hid hz
  have HL := Lib.hid hbl
  have HG := Lib.hid hg
  clear hB hz hbl hg hr hrW
  unfold sideVal Fr.val
  go_enter Try.func47, Try.ntmps47
  go_wp2_with fail
  rw [← hW]
  clear hW
  refine (rgood_any A n c ⟨ss, tk, kn⟩ W hnm HRW.out).mono ?_
  rintro e w1 ⟨rfl, hb1⟩
  have HR1 : Hid (Rd w1 w1.heap.size 1 A n (ss.map Value.string)) := (HRW.out.below hb1).mono hb1.size
  have HB1 := Lib.hid hb1
  have HC1 : Hid (B0 w1 w.heap.size (.slice A n c) (.int .i64 tk) (.int .i64 kn) (.int .i64 2) (.int .i64 num) (.int .i64 t) (.string b)) := HB.out.below hb1 (by have := HZ.out; omega)
  clear hb1
  obtain ⟨⟨q0, q1, q2, z0, z1, z2⟩, ⟨f0, f1, f2, f3⟩, ⟨r0, r1, r2, y0, y1, y2⟩, hs⟩ := HC1.out.out
  rw [HG.out]
  have HV := Lib.hid hv
  clear hv
  go_wp2_with fail
  refine (rvalid_any ⟨2, num, t, b⟩ w1).mono ?_
  rintro e w2 ⟨rfl, hb2⟩
  clear q0 q1 q2 z0 z1 z2 f0 f1 f2 f3 r0 r1 r2 y0 y1 y2 hs
  have HR2 : Hid (Rd w2 w2.heap.size 1 A n (ss.map Value.string)) := (HR1.out.below hb2).mono hb2.size
  have HB2 := Lib.hid hb2
  have HC2 : Hid (B0 w2 w.heap.size (.slice A n c) (.int .i64 tk) (.int .i64 kn) (.int .i64 2) (.int .i64 num) (.int .i64 t) (.string b)) := HC1.out.below hb2 (by have := HC1.out.2.2.lt; omega)
  clear hb2
  obtain ⟨⟨q0, q1, q2, z0, z1, z2⟩, ⟨f0, f1, f2, f3⟩, ⟨r0, r1, r2, y0, y1, y2⟩, hs⟩ := HC2.out.out
  rw [HV.out]
  have HLN := Lib.hid hln
  clear hln
  go_wp2_with fail
  refine (rcopied_any A n c ⟨ss, tk, kn⟩ w2 (by omega) HR2.out).mono ?_
  rintro e w3 ⟨A1, c1, rfl, hn1, hm1, hown, hb3⟩
  have hs2 := Lib.hid hs
  clear q0 q1 q2 z0 z1 z2 f0 f1 f2 f3 r0 r1 r2 y0 y1 y2 hs
  have HB3 := Lib.hid hb3
  have HC3 : Hid (B0 w3 w.heap.size (.slice A n c) (.int .i64 tk) (.int .i64 kn) (.int .i64 2) (.int .i64 num) (.int .i64 t) (.string b)) := HC2.out.below hb3 (by have := HC2.out.2.2.lt; omega)
  have HO : Hid (w3.ownsRow w2.heap.size 9 1 (.slice A1 n c1) n (ss.map Value.string)) := by have := HLN.out; dsimp only at hown; rw [this] at hown; exact hown
  have HR3 : Hid (Rd w3 w3.heap.size 1 A n (ss.map Value.string)) := (HR2.out.below hb3).mono hb3.size
  have hlow : w.heap.size + 1 + 1 < w2.heap.size := hs2.out
  have hlow3 : w2.heap.size ≤ w3.heap.size := hb3.size
  clear hb3 hown
  obtain ⟨⟨q0, q1, q2, z0, z1, z2⟩, ⟨f0, f1, f2, f3⟩, ⟨r0, r1, r2, y0, y1, y2⟩, hs⟩ := HC3.out.out
  have hg3 : w.heap.size < w3.heap.size := by omega
  have hg4 : w.heap.size + 1 < w3.heap.size := by omega
  have hg5 : w.heap.size + 1 + 1 < w3.heap.size := by omega
  dsimp only at hn1 ⊢
  rw [HLN.out] at hn1 ⊢
  unfold sideVal
  go_upto_region 9 with (fail)
  obtain ⟨W4, hW4⟩ : ∃ W4, W4 = w3.alloc (.cells #[.slice A1 n c1, .int .i64 tk, .int .i64 kn] 33) := ⟨_, rfl⟩
  have HC4 : Hid (B0 W4 w.heap.size (.slice A n c) (.int .i64 tk) (.int .i64 kn) (.int .i64 2) (.int .i64 num) (.int .i64 t) (.string b)) := by rw [hW4]; exact HC3.out.alloc _
  have HK4 : Hid (Bk W4 w3.heap.size 33 #[.slice A1 n c1, .int .i64 tk, .int .i64 kn]) := by rw [hW4]; exact Bk.new _ _ _
  have HO4 : Hid (W4.ownsRow w2.heap.size 9 1 (.slice A1 n c1) n (ss.map Value.string)) := by rw [hW4]; exact HO.out.alloc _
  have HB4 : Hid (Below w.heap.size w W4) := by
    rw [hW4]
    exact (HL.out.trans (((HB1.out.trans (HB2.out.mono HB1.out.size)).trans (HB3.out.mono (Nat.le_trans HB1.out.size HB2.out.size))).mono (by have := HZ.out; omega))).alloc (by omega) _
  have HR4 : Hid (Rd W4 w3.heap.size 1 A n (ss.map Value.string)) := by rw [hW4]; exact HR3.out.alloc (Nat.le_refl _) _
  have hz4 : w3.heap.size < W4.heap.size := by rw [hW4]; simp
  rw [← hW4]
  clear hW4 q0 q1 q2 z0 z1 z2 f0 f1 f2 f3 r0 r1 r2 y0 y1 y2 hs
  obtain ⟨⟨q0, q1, q2, z0, z1, z2⟩, ⟨f0, f1, f2, f3⟩, ⟨r0, r1, r2, y0, y1, y2⟩, hs⟩ := HC4.out.out
  obtain ⟨o0, o1, o2, x0, x1, x2, hx⟩ := HK4.out.three
  go_wp2_with fail
  go_loopw [9, 44] (fun v i wr => ∃ k : Nat, k ≤ n ∧ i = .int .i64 k ∧ RAt W4 ⟨ss, tk, kn⟩ num k wr v) (fun _ i _ => n - (intOf i).toNat)
  case atStart =>
    have e0 : cnt num 0 = 0 := by unfold cnt; omega
    exact ⟨0, Nat.zero_le _, rfl, by rw [RAt, e0]; exact ⟨⟨none, 0, rfl⟩, World.ownsRow_nil _ _ _ _, Below.refl _ _⟩⟩
  case round =>
    obtain ⟨k, hk, rfl, ⟨A5, c5, rfl⟩, hown5, hb5⟩ := hrel
    have HO5 := Lib.hid hown5
    have HB5 := Lib.hid hb5
    have HC5 : Hid (B0 wr w.heap.size (.slice A n c) (.int .i64 tk) (.int .i64 kn) (.int .i64 2) (.int .i64 num) (.int .i64 t) (.string b)) := HC4.out.below hb5 (by omega)
    have HK5 : Hid (Bk wr w3.heap.size 33 #[.slice A1 n c1, .int .i64 tk, .int .i64 kn]) := HK4.out.below hb5 hz4
    clear hown5 hb5
    clear q0 q1 q2 z0 z1 z2 f0 f1 f2 f3 r0 r1 r2 y0 y1 y2 hs o0 o1 o2 x0 x1 x2 hx; obtain ⟨⟨q0, q1, q2, z0, z1, z2⟩, ⟨f0, f1, f2, f3⟩, ⟨r0, r1, r2, y0, y1, y2⟩, hs⟩ := HC5.out.out; obtain ⟨o0, o1, o2, x0, x1, x2, hx⟩ := HK5.out.three
    by_cases hlt : k < n
    · have hlt' : k < ss.length := by have := HLN.out; omega
      have hc64 : cnt num k ≤ 64 := by unfold cnt; omega
      obtain ⟨a, rfl, _, ca⟩ := (HR4.out.below (HB5.out.mono (Nat.le_of_lt hz4))).cell (j := k) (u := .string (ss[k])) (by simp)
      by_cases hA : num ≤ (k : Int) + 1
      · by_cases hB : cnt num k < 64
        · have hcn : cnt num (k + 1) = cnt num k + 1 := by unfold cnt at hB ⊢; omega
          have hnk : num + (cnt num k : Int) = (k : Int) + 1 := by unfold cnt at hB ⊢; omega
          have hdat : Sd.data ⟨ss, tk, kn⟩ (num + (cnt num k : Int)) = ⟨1, (k : Int) + 1, tk, ss[k]⟩ := by
            rw [hnk]
            simp [Sd.data, Sd.msg, List.getD, List.getElem?_eq_getElem hlt']
          have HD := Lib.hid hdat
          have HCN := Lib.hid hcn
          generalize hj : cnt num k = j at *
          have HJ := Lib.hid hj
          clear hdat hcn hnk hj
          have ho6 : (wr.alloc (.cells #[.int .i64 1, .int .i64 ((k : Int) + 1), .int .i64 tk, .string ss[k]] 44)).ownsRow W4.heap.size 44 4 (.slice A5 j c5) j (frs ((List.range j).map fun i : Nat => Sd.data ⟨ss, tk, kn⟩ (num + i))) := HO5.out.alloc _
          have hr6 : Rd (wr.alloc (.cells #[.int .i64 1, .int .i64 ((k : Int) + 1), .int .i64 tk, .string ss[k]] 44)) (wr.heap.size + 1) 4 (some ⟨wr.heap.size, 0, none⟩) 1 (Fr.mk 1 ((k : Int) + 1) tk ss[k]).cells :=
            ⟨rfl, fun _ => ⟨_, rfl, by simp, World.news_of_block (fr := (0, 0)) (t := 44) (cs := #[.int .i64 1, .int .i64 ((k : Int) + 1), .int .i64 tk, .string ss[k]]) (heap_alloc_new wr _)⟩⟩
          have hbs : W4.heap.size ≤ wr.heap.size := HB5.out.size
          go_wp2_with (at_builtin; go_must (refine wpList_append_rd _ rfl (.tmp 59) (.tmp 66) _ rfl W4.heap.size 44 i0 _ 4 40 Try.underlying38 hi hz0 hzs hz2 rfl (by omega) _ j _ rfl ho6 (wr.heap.size + 1) _ 1 1 _ rfl hr6 (cells_one _) (by simp only [maxLen]; omega) (by omega) (by simp; omega) ?_); intro A6 c6 w6 hc6 hm6 hown6 hg6 hat6; have HO6 := Lib.hid hown6; have HG6 := Lib.hid hg6; clear hown6 hg6 hat6)
          go_roundw
          case rel =>
            refine ⟨k + 1, by omega, by go_num, ?_⟩
            rw [RAt, HCN.out]
            refine ⟨⟨A6, c6, rfl⟩, ?_, ?_⟩
            · rw [List.range_succ, List.map_append, frs_append]
              have h1 := HO6.out
              have h2 := HD.out
              simpa [frs, h2] using h1
            · exact (HB5.out.alloc hbs _).grown HG6.out (by simp; omega) (fun g hg => (ho6.lt g hg).1)
          case measure => simp [intOf]; omega
        · have hcn : cnt num (k + 1) = cnt num k := by unfold cnt at hB ⊢; omega
          have hB' : ¬ ((cnt num k : Int) < 64) := by omega
          have HCN := Lib.hid hcn
          clear hcn
          generalize hj : cnt num k = j at *
          have HJ := Lib.hid hj
          clear hj
          go_wp2
          go_roundw
          case rel =>
            refine ⟨k + 1, by omega, by go_num, ?_⟩
            rw [RAt, HCN.out]
            exact ⟨⟨A5, c5, rfl⟩, HO5.out, HB5.out⟩
          case measure => simp [intOf]; omega
      · have hcn : cnt num (k + 1) = cnt num k := by unfold cnt; omega
        have HCN := Lib.hid hcn
        clear hcn
        generalize hj : cnt num k = j at *
        have HJ := Lib.hid hj
        clear hj
        go_wp2
        go_roundw
        case rel =>
          refine ⟨k + 1, by omega, by go_num, ?_⟩
          rw [RAt, HCN.out]
          exact ⟨⟨A5, c5, rfl⟩, HO5.out, HB5.out⟩
        case measure => simp [intOf]; omega
    · have hkn : k = n := by omega
      have hfin : (Sd.mk ss tk kn).again num = (List.range (cnt num k)).map fun i : Nat => Sd.data ⟨ss, tk, kn⟩ (num + i) := by
        have := HLN.out
        unfold Sd.again cnt
        dsimp only
        rw [this, hkn]
      have HF := Lib.hid hfin
      clear hkn hfin
      generalize hj : cnt num k = j at *
      have HJ := Lib.hid hj
      clear hj
      have hlen : ((Sd.mk ss tk kn).again num).length = j := by rw [HF.out]; simp
      have HLE := Lib.hid hlen
      have hfm := own_form HO5.out
      have HFM := Lib.hid hfm
      clear hlen hfm
      go_wp2
      obtain ⟨A', c', he, h5, h6⟩ := HFM.out
      injection he with _ _ he
      subst he
      refine bodyPost_ret (v := .tuple #[sideVal (.slice A1 n c1) ⟨ss, tk, kn⟩, .string noBytes, .slice A5 j c5, .int .i64 0]) (by simp [results, Try.results47, go_sem, sideVal, r0, r1, r2, noBytes]) rfl ⟨A1, c1, A5, c5, (by dsimp only; rw [HLN.out, HLE.out]), by dsimp only; rw [HLN.out]; exact hn1, hm1, by dsimp only; rw [HLE.out]; exact h5, h6, ?_, ?_, ?_⟩
      · dsimp only
        rw [HLN.out]
        refine own_mono (base := w2.heap.size) ?_ (by omega)
        repeat (refine ownsRow_setCell_below ?_ (by first | (simp; omega) | (simp; done)) _)
        exact HO4.out.kept (row := none) ⟨HB5.out.os, HB5.out.tape, HB5.out.output, HB5.out.size, fun j hj _ => HB5.out.block j hj⟩ (by cases (Value.slice A1 n c1).ownBlock <;> simp)
      · dsimp only
        rw [HLE.out, HF.out]
        refine own_mono (base := W4.heap.size) ?_ (by omega)
        repeat (refine ownsRow_setCell_below ?_ (by first | (simp; omega) | (simp; done)) _)
        exact HO5.out
      · repeat (refine Below.setCell ?_ (by first | (simp; done) | (simp; omega)) _)
        exact HB4.out.trans (HB5.out.mono HB4.out.size)


set_option maxHeartbeats 1000000 in
theorem rtake_ask_c (num : Int) (hnm : n ≤ maxLen) (hln : ss.length = n) (hr : Rd w w.heap.size 1 A n (ss.map Value.string)) (hg : goodB ⟨ss, tk, kn⟩ = true) (hv : validB ⟨2, num, t, b⟩ = true) (hn : n ≤ 256) (h1 : 1 ≤ num) (h2 : num ≤ 1099511627776) (k1 : kn < t) (k2 : n < t) :
    Calls Try.prog 47 #[sideVal (.slice A n c) ⟨ss, tk, kn⟩, (Fr.mk 2 num t b).val] w (TakeOut w ⟨⟨ss, tk, kn⟩, noBytes, (Sd.mk ss tk kn).again num, 0⟩) := by
  obtain ⟨i0, hi, hz0, hzs, hz2⟩ := info_parts info44
  obtain ⟨W, hW⟩ : ∃ W, W = ((w.alloc (.cells #[.slice A n c, .int .i64 tk, .int .i64 kn] 33)).alloc (.cells #[.int .i64 2, .int .i64 num, .int .i64 t, .string b] 44)).alloc (.cells #[.slice none 0 0, .int .i64 0, .int .i64 0] 33) := ⟨_, rfl⟩
  have hrW : Rd W W.heap.size 1 A n (ss.map Value.string) := by rw [hW]; exact (((hr.alloc (Nat.le_refl _) _).alloc (by simp) _).alloc (by simp; omega) _).mono (by simp; omega)
  have hB : B0 W w.heap.size (.slice A n c) (.int .i64 tk) (.int .i64 kn) (.int .i64 2) (.int .i64 num) (.int .i64 t) (.string b) := by rw [hW]; exact B0.new _ _ _ _ _ _ _ _
  have hz : W.heap.size = w.heap.size + 1 + 1 + 1 := by rw [hW]; simp
  have hbl : Below w.heap.size w W := by rw [hW]; exact (((Below.refl _ w).alloc (Nat.le_refl _) _).alloc (by simp) _).alloc (by simp; omega) _
  have HRW := Lib.hid hrW
  have HB := Lib.hid hB
  have HZ := Lib.hid hz
  have HL := Lib.hid hbl
  have HG := Lib.hid hg
  clear hB hz hbl hg hr hrW
  unfold sideVal Fr.val
  go_enter Try.func47, Try.ntmps47
  go_wp2_with fail
  rw [← hW]
  clear hW
  refine (rgood_any A n c ⟨ss, tk, kn⟩ W hnm HRW.out).mono ?_
  rintro e w1 ⟨rfl, hb1⟩
  have HR1 : Hid (Rd w1 w1.heap.size 1 A n (ss.map Value.string)) := (HRW.out.below hb1).mono hb1.size
  have HB1 := Lib.hid hb1
  have HC1 : Hid (B0 w1 w.heap.size (.slice A n c) (.int .i64 tk) (.int .i64 kn) (.int .i64 2) (.int .i64 num) (.int .i64 t) (.string b)) := HB.out.below hb1 (by have := HZ.out; omega)
  clear hb1
  obtain ⟨⟨q0, q1, q2, z0, z1, z2⟩, ⟨f0, f1, f2, f3⟩, ⟨r0, r1, r2, y0, y1, y2⟩, hs⟩ := HC1.out.out
  rw [HG.out]
  have HV := Lib.hid hv
  clear hv
  go_wp2_with fail
  refine (rvalid_any ⟨2, num, t, b⟩ w1).mono ?_
  rintro e w2 ⟨rfl, hb2⟩
  clear q0 q1 q2 z0 z1 z2 f0 f1 f2 f3 r0 r1 r2 y0 y1 y2 hs
  have HR2 : Hid (Rd w2 w2.heap.size 1 A n (ss.map Value.string)) := (HR1.out.below hb2).mono hb2.size
  have HB2 := Lib.hid hb2
  have HC2 : Hid (B0 w2 w.heap.size (.slice A n c) (.int .i64 tk) (.int .i64 kn) (.int .i64 2) (.int .i64 num) (.int .i64 t) (.string b)) := HC1.out.below hb2 (by have := HC1.out.2.2.lt; omega)
  clear hb2
  obtain ⟨⟨q0, q1, q2, z0, z1, z2⟩, ⟨f0, f1, f2, f3⟩, ⟨r0, r1, r2, y0, y1, y2⟩, hs⟩ := HC2.out.out
  rw [HV.out]
  have HLN := Lib.hid hln
  clear hln
  go_wp2_with fail
  refine (rcopied_any A n c ⟨ss, tk, kn⟩ w2 (by omega) HR2.out).mono ?_
  rintro e w3 ⟨A1, c1, rfl, hn1, hm1, hown, hb3⟩
  have hs2 := Lib.hid hs
  clear q0 q1 q2 z0 z1 z2 f0 f1 f2 f3 r0 r1 r2 y0 y1 y2 hs
  have HB3 := Lib.hid hb3
  have HC3 : Hid (B0 w3 w.heap.size (.slice A n c) (.int .i64 tk) (.int .i64 kn) (.int .i64 2) (.int .i64 num) (.int .i64 t) (.string b)) := HC2.out.below hb3 (by have := HC2.out.2.2.lt; omega)
  have HO : Hid (w3.ownsRow w2.heap.size 9 1 (.slice A1 n c1) n (ss.map Value.string)) := by have := HLN.out; dsimp only at hown; rw [this] at hown; exact hown
  have HR3 : Hid (Rd w3 w3.heap.size 1 A n (ss.map Value.string)) := (HR2.out.below hb3).mono hb3.size
  have hlow : w.heap.size + 1 + 1 < w2.heap.size := hs2.out
  have hlow3 : w2.heap.size ≤ w3.heap.size := hb3.size
  clear hb3 hown
  obtain ⟨⟨q0, q1, q2, z0, z1, z2⟩, ⟨f0, f1, f2, f3⟩, ⟨r0, r1, r2, y0, y1, y2⟩, hs⟩ := HC3.out.out
  have hg3 : w.heap.size < w3.heap.size := by omega
  have hg4 : w.heap.size + 1 < w3.heap.size := by omega
  have hg5 : w.heap.size + 1 + 1 < w3.heap.size := by omega
  dsimp only at hn1 ⊢
  rw [HLN.out] at hn1 ⊢
  unfold sideVal
  go_upto_region 9 with (fail)
  obtain ⟨W4, hW4⟩ : ∃ W4, W4 = w3.alloc (.cells #[.slice A1 n c1, .int .i64 tk, .int .i64 kn] 33) := ⟨_, rfl⟩
  have HC4 : Hid (B0 W4 w.heap.size (.slice A n c) (.int .i64 tk) (.int .i64 kn) (.int .i64 2) (.int .i64 num) (.int .i64 t) (.string b)) := by rw [hW4]; exact HC3.out.alloc _
  have HK4 : Hid (Bk W4 w3.heap.size 33 #[.slice A1 n c1, .int .i64 tk, .int .i64 kn]) := by rw [hW4]; exact Bk.new _ _ _
  have HO4 : Hid (W4.ownsRow w2.heap.size 9 1 (.slice A1 n c1) n (ss.map Value.string)) := by rw [hW4]; exact HO.out.alloc _
  have HB4 : Hid (Below w.heap.size w W4) := by
    rw [hW4]
    exact (HL.out.trans (((HB1.out.trans (HB2.out.mono HB1.out.size)).trans (HB3.out.mono (Nat.le_trans HB1.out.size HB2.out.size))).mono (by have := HZ.out; omega))).alloc (by omega) _
  have HR4 : Hid (Rd W4 w3.heap.size 1 A n (ss.map Value.string)) := by rw [hW4]; exact HR3.out.alloc (Nat.le_refl _) _
  have hz4 : w3.heap.size < W4.heap.size := by rw [hW4]; simp
  rw [← hW4]
  clear hW4 q0 q1 q2 z0 z1 z2 f0 f1 f2 f3 r0 r1 r2 y0 y1 y2 hs
  obtain ⟨⟨q0, q1, q2, z0, z1, z2⟩, ⟨f0, f1, f2, f3⟩, ⟨r0, r1, r2, y0, y1, y2⟩, hs⟩ := HC4.out.out
  obtain ⟨o0, o1, o2, x0, x1, x2, hx⟩ := HK4.out.three
  go_wp2_with fail
  go_loopw [9, 44] (fun v i wr => ∃ k : Nat, k ≤ n ∧ i = .int .i64 k ∧ RAt W4 ⟨ss, tk, kn⟩ num k wr v) (fun _ i _ => n - (intOf i).toNat)
  case atStart =>
    have e0 : cnt num 0 = 0 := by unfold cnt; omega
    exact ⟨0, Nat.zero_le _, rfl, by rw [RAt, e0]; exact ⟨⟨none, 0, rfl⟩, World.ownsRow_nil _ _ _ _, Below.refl _ _⟩⟩
  case round =>
    obtain ⟨k, hk, rfl, ⟨A5, c5, rfl⟩, hown5, hb5⟩ := hrel
    have HO5 := Lib.hid hown5
    have HB5 := Lib.hid hb5
    have HC5 : Hid (B0 wr w.heap.size (.slice A n c) (.int .i64 tk) (.int .i64 kn) (.int .i64 2) (.int .i64 num) (.int .i64 t) (.string b)) := HC4.out.below hb5 (by omega)
    have HK5 : Hid (Bk wr w3.heap.size 33 #[.slice A1 n c1, .int .i64 tk, .int .i64 kn]) := HK4.out.below hb5 hz4
    clear hown5 hb5
    clear q0 q1 q2 z0 z1 z2 f0 f1 f2 f3 r0 r1 r2 y0 y1 y2 hs o0 o1 o2 x0 x1 x2 hx; obtain ⟨⟨q0, q1, q2, z0, z1, z2⟩, ⟨f0, f1, f2, f3⟩, ⟨r0, r1, r2, y0, y1, y2⟩, hs⟩ := HC5.out.out; obtain ⟨o0, o1, o2, x0, x1, x2, hx⟩ := HK5.out.three
    by_cases hlt : k < n
    · have hlt' : k < ss.length := by have := HLN.out; omega
      have hc64 : cnt num k ≤ 64 := by unfold cnt; omega
      obtain ⟨a, rfl, _, ca⟩ := (HR4.out.below (HB5.out.mono (Nat.le_of_lt hz4))).cell (j := k) (u := .string (ss[k])) (by simp)
      by_cases hA : num ≤ (k : Int) + 1
      · by_cases hB : cnt num k < 64
        · have hcn : cnt num (k + 1) = cnt num k + 1 := by unfold cnt at hB ⊢; omega
          have hnk : num + (cnt num k : Int) = (k : Int) + 1 := by unfold cnt at hB ⊢; omega
          have hdat : Sd.data ⟨ss, tk, kn⟩ (num + (cnt num k : Int)) = ⟨1, (k : Int) + 1, tk, ss[k]⟩ := by
            rw [hnk]
            simp [Sd.data, Sd.msg, List.getD, List.getElem?_eq_getElem hlt']
          have HD := Lib.hid hdat
          have HCN := Lib.hid hcn
          generalize hj : cnt num k = j at *
          have HJ := Lib.hid hj
          clear hdat hcn hnk hj
          have ho6 : (wr.alloc (.cells #[.int .i64 1, .int .i64 ((k : Int) + 1), .int .i64 tk, .string ss[k]] 44)).ownsRow W4.heap.size 44 4 (.slice A5 j c5) j (frs ((List.range j).map fun i : Nat => Sd.data ⟨ss, tk, kn⟩ (num + i))) := HO5.out.alloc _
          have hr6 : Rd (wr.alloc (.cells #[.int .i64 1, .int .i64 ((k : Int) + 1), .int .i64 tk, .string ss[k]] 44)) (wr.heap.size + 1) 4 (some ⟨wr.heap.size, 0, none⟩) 1 (Fr.mk 1 ((k : Int) + 1) tk ss[k]).cells :=
            ⟨rfl, fun _ => ⟨_, rfl, by simp, World.news_of_block (fr := (0, 0)) (t := 44) (cs := #[.int .i64 1, .int .i64 ((k : Int) + 1), .int .i64 tk, .string ss[k]]) (heap_alloc_new wr _)⟩⟩
          have hbs : W4.heap.size ≤ wr.heap.size := HB5.out.size
          go_wp2_with (at_builtin; go_must (refine wpList_append_rd _ rfl (.tmp 59) (.tmp 66) _ rfl W4.heap.size 44 i0 _ 4 40 Try.underlying38 hi hz0 hzs hz2 rfl (by omega) _ j _ rfl ho6 (wr.heap.size + 1) _ 1 1 _ rfl hr6 (cells_one _) (by simp only [maxLen]; omega) (by omega) (by simp; omega) ?_); intro A6 c6 w6 hc6 hm6 hown6 hg6 hat6; have HO6 := Lib.hid hown6; have HG6 := Lib.hid hg6; clear hown6 hg6 hat6)
          go_roundw
          case rel =>
            refine ⟨k + 1, by omega, by go_num, ?_⟩
            rw [RAt, HCN.out]
            refine ⟨⟨A6, c6, rfl⟩, ?_, ?_⟩
            · rw [List.range_succ, List.map_append, frs_append]
              have h1 := HO6.out
              have h2 := HD.out
              simpa [frs, h2] using h1
            · exact (HB5.out.alloc hbs _).grown HG6.out (by simp; omega) (fun g hg => (ho6.lt g hg).1)
          case measure => simp [intOf]; omega
        · have hcn : cnt num (k + 1) = cnt num k := by unfold cnt at hB ⊢; omega
          have hB' : ¬ ((cnt num k : Int) < 64) := by omega
          have HCN := Lib.hid hcn
          clear hcn
          generalize hj : cnt num k = j at *
          have HJ := Lib.hid hj
          clear hj
          go_wp2
          go_roundw
          case rel =>
            refine ⟨k + 1, by omega, by go_num, ?_⟩
            rw [RAt, HCN.out]
            exact ⟨⟨A5, c5, rfl⟩, HO5.out, HB5.out⟩
          case measure => simp [intOf]; omega
      · have hcn : cnt num (k + 1) = cnt num k := by unfold cnt; omega
        have HCN := Lib.hid hcn
        clear hcn
        generalize hj : cnt num k = j at *
        have HJ := Lib.hid hj
        clear hj
        go_wp2
        go_roundw
        case rel =>
          refine ⟨k + 1, by omega, by go_num, ?_⟩
          rw [RAt, HCN.out]
          exact ⟨⟨A5, c5, rfl⟩, HO5.out, HB5.out⟩
        case measure => simp [intOf]; omega
    · have hkn : k = n := by omega
      have hfin : (Sd.mk ss tk kn).again num = (List.range (cnt num k)).map fun i : Nat => Sd.data ⟨ss, tk, kn⟩ (num + i) := by
        have := HLN.out
        unfold Sd.again cnt
        dsimp only
        rw [this, hkn]
      have HF := Lib.hid hfin
      clear hkn hfin
      generalize hj : cnt num k = j at *
      have HJ := Lib.hid hj
      clear hj
      have hlen : ((Sd.mk ss tk kn).again num).length = j := by rw [HF.out]; simp
      have HLE := Lib.hid hlen
      have hfm := own_form HO5.out
      have HFM := Lib.hid hfm
      clear hlen hfm
      go_wp2
      obtain ⟨A', c', he, h5, h6⟩ := HFM.out
      injection he with _ _ he
      subst he
      refine bodyPost_ret (v := .tuple #[sideVal (.slice A1 n c1) ⟨ss, tk, kn⟩, .string noBytes, .slice A5 j c5, .int .i64 0]) (by simp [results, Try.results47, go_sem, sideVal, r0, r1, r2, noBytes]) rfl ⟨A1, c1, A5, c5, (by dsimp only; rw [HLN.out, HLE.out]), by dsimp only; rw [HLN.out]; exact hn1, hm1, by dsimp only; rw [HLE.out]; exact h5, h6, ?_, ?_, ?_⟩
      · dsimp only
        rw [HLN.out]
        refine own_mono (base := w2.heap.size) ?_ (by omega)
        repeat (refine ownsRow_setCell_below ?_ (by first | (simp; omega) | (simp; done)) _)
        exact HO4.out.kept (row := none) ⟨HB5.out.os, HB5.out.tape, HB5.out.output, HB5.out.size, fun j hj _ => HB5.out.block j hj⟩ (by cases (Value.slice A1 n c1).ownBlock <;> simp)
      · dsimp only
        rw [HLE.out, HF.out]
        refine own_mono (base := W4.heap.size) ?_ (by omega)
        repeat (refine ownsRow_setCell_below ?_ (by first | (simp; omega) | (simp; done)) _)
        exact HO5.out
      · repeat (refine Below.setCell ?_ (by first | (simp; done) | (simp; omega)) _)
        exact HB4.out.trans (HB5.out.mono HB4.out.size)

end

end Go.Proofs.Ytnbndhmdfheikaa
