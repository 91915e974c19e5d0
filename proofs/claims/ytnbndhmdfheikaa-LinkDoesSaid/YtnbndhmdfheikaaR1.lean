/- Walk: Take of the document, by gen_rtake.py. -/
import Derived.Test.YtnbndhmdfheikaaS1
namespace Go.Proofs.Ytnbndhmdfheikaa
open Go.RowKit

section
variable (A : Option Addr) (n c : Nat) (ss : List ByteArray) (tk kn t : Int) (b : ByteArray) (w : World)
theorem B0.alloc {w : World} {g : Nat} {v0 v1 v2 f0 f1 f2 f3 : Value} (h : B0 w g v0 v1 v2 f0 f1 f2 f3) (o : Obj) : B0 (w.alloc o) g v0 v1 v2 f0 f1 f2 f3 := ⟨h.1.alloc o, h.2.1.alloc o, h.2.2.alloc o⟩
theorem B0.grown {w w' : World} {g : Nat} {v0 v1 v2 f0 f1 f2 f3 : Value} {row : Option Nat} (h : B0 w g v0 v1 v2 f0 f1 f2 f3) (hb : w.grownBy w' row) (hr : ∀ k, row = some k → g + 2 < k) : B0 w' g v0 v1 v2 f0 f1 f2 f3 :=
  ⟨h.1.grown hb (fun e => by have := hr _ e.symm; omega), h.2.1.grown hb (fun e => by have := hr _ e.symm; omega), h.2.2.grown hb (fun e => by have := hr _ e.symm; omega)⟩

set_option maxHeartbeats 1000000 in
theorem rtake_bad (k num : Int) (hnm : n ≤ maxLen) (hr : Rd w w.heap.size 1 A n (ss.map Value.string)) (hg : goodB ⟨ss, tk, kn⟩ = false) :
    Calls Try.prog 47 #[sideVal (.slice A n c) ⟨ss, tk, kn⟩, (Fr.mk k num t b).val] w (TakeOut w ⟨⟨[], 0, 0⟩, noBytes, [], 1⟩) := by
  obtain ⟨W, hW⟩ : ∃ W, W = ((w.alloc (.cells #[.slice A n c, .int .i64 tk, .int .i64 kn] 33)).alloc (.cells #[.int .i64 k, .int .i64 num, .int .i64 t, .string b] 44)).alloc (.cells #[.slice none 0 0, .int .i64 0, .int .i64 0] 33) := ⟨_, rfl⟩
  have hrW : Rd W W.heap.size 1 A n (ss.map Value.string) := by rw [hW]; exact (((hr.alloc (Nat.le_refl _) _).alloc (by simp) _).alloc (by simp; omega) _).mono (by simp; omega)
  have hB : B0 W w.heap.size (.slice A n c) (.int .i64 tk) (.int .i64 kn) (.int .i64 k) (.int .i64 num) (.int .i64 t) (.string b) := by rw [hW]; exact B0.new _ _ _ _ _ _ _ _
  have hz : W.heap.size = w.heap.size + 1 + 1 + 1 := by rw [hW]; simp
  have hbl : Below w.heap.size w W := by rw [hW]; exact (((Below.refl _ w).alloc (Nat.le_refl _) _).alloc (by simp) _).alloc (by simp; omega) _
  have HRW := Lib.hid hrW
  have HB := Lib.hid hB
  have HZ := Lib.hid hz
  have HL := Lib.hid hbl
  have HG := Lib.hid hg
  clear hB hz hbl hg hr hrW
  unfold sideVal Fr.val
  go_enter Try.func47, Try.ntmps47
  go_wp2_with fail
  rw [← hW]
  clear hW
  refine (rgood_any A n c ⟨ss, tk, kn⟩ W hnm HRW.out).mono ?_
  rintro e w1 ⟨rfl, hb1⟩
  have HB1 := Lib.hid hb1
  have HC1 : Hid (B0 w1 w.heap.size (.slice A n c) (.int .i64 tk) (.int .i64 kn) (.int .i64 k) (.int .i64 num) (.int .i64 t) (.string b)) := HB.out.below hb1 (by have := HZ.out; omega)
  clear hb1
  obtain ⟨⟨q0, q1, q2, z0, z1, z2⟩, ⟨f0, f1, f2, f3⟩, ⟨r0, r1, r2, y0, y1, y2⟩, hs⟩ := HC1.out.out
  rw [HG.out]
  go_wp2
  refine bodyPost_ret (v := .tuple #[sideVal (.slice none 0 0) ⟨[], 0, 0⟩, .string noBytes, .slice none 0 0, .int .i64 1]) (by simp [results, Try.results47, go_sem, sideVal, r0, r1, r2, noBytes]) rfl ⟨none, 0, none, 0, rfl, Nat.le_refl _, Nat.zero_le _, Nat.le_refl _, Nat.zero_le _, World.ownsRow_nil _ _ _ _, World.ownsRow_nil _ _ _ _, ?_⟩
  repeat (refine Below.setCell ?_ (by first | (simp; done) | (simp; omega)) _)
  exact HL.out.trans (HB1.out.mono (by have := HZ.out; omega))


set_option maxHeartbeats 1000000 in
theorem rtake_form (k num : Int) (hnm : n ≤ maxLen) (hr : Rd w w.heap.size 1 A n (ss.map Value.string)) (hg : goodB ⟨ss, tk, kn⟩ = true) (hv : validB ⟨k, num, t, b⟩ = false) :
    Calls Try.prog 47 #[sideVal (.slice A n c) ⟨ss, tk, kn⟩, (Fr.mk k num t b).val] w (TakeOut w ⟨⟨[], 0, 0⟩, noBytes, [], 11⟩) := by
  obtain ⟨W, hW⟩ : ∃ W, W = ((w.alloc (.cells #[.slice A n c, .int .i64 tk, .int .i64 kn] 33)).alloc (.cells #[.int .i64 k, .int .i64 num, .int .i64 t, .string b] 44)).alloc (.cells #[.slice none 0 0, .int .i64 0, .int .i64 0] 33) := ⟨_, rfl⟩
  have hrW : Rd W W.heap.size 1 A n (ss.map Value.string) := by rw [hW]; exact (((hr.alloc (Nat.le_refl _) _).alloc (by simp) _).alloc (by simp; omega) _).mono (by simp; omega)
  have hB : B0 W w.heap.size (.slice A n c) (.int .i64 tk) (.int .i64 kn) (.int .i64 k) (.int .i64 num) (.int .i64 t) (.string b) := by rw [hW]; exact B0.new _ _ _ _ _ _ _ _
  have hz : W.heap.size = w.heap.size + 1 + 1 + 1 := by rw [hW]; simp
  have hbl : Below w.heap.size w W := by rw [hW]; exact (((Below.refl _ w).alloc (Nat.le_refl _) _).alloc (by simp) _).alloc (by simp; omega) _
  have HRW := Lib.hid hrW
  have HB := Lib.hid hB
  have HZ := Lib.hid hz
  have HL := Lib.hid hbl
  have HG := Lib.hid hg
  clear hB hz hbl hg hr hrW
  unfold sideVal Fr.val
  go_enter Try.func47, Try.ntmps47
  go_wp2_with fail
  rw [← hW]
  clear hW
  refine (rgood_any A n c ⟨ss, tk, kn⟩ W hnm HRW.out).mono ?_
  rintro e w1 ⟨rfl, hb1⟩
  have HR1 : Hid (Rd w1 w1.heap.size 1 A n (ss.map Value.string)) := (HRW.out.below hb1).mono hb1.size
  have HB1 := Lib.hid hb1
  have HC1 : Hid (B0 w1 w.heap.size (.slice A n c) (.int .i64 tk) (.int .i64 kn) (.int .i64 k) (.int .i64 num) (.int .i64 t) (.string b)) := HB.out.below hb1 (by have := HZ.out; omega)
  clear hb1
  obtain ⟨⟨q0, q1, q2, z0, z1, z2⟩, ⟨f0, f1, f2, f3⟩, ⟨r0, r1, r2, y0, y1, y2⟩, hs⟩ := HC1.out.out
  rw [HG.out]
  have HV := Lib.hid hv
  clear hv
  go_wp2_with fail
  refine (rvalid_any ⟨k, num, t, b⟩ w1).mono ?_
  rintro e w2 ⟨rfl, hb2⟩
  clear q0 q1 q2 z0 z1 z2 f0 f1 f2 f3 r0 r1 r2 y0 y1 y2 hs
  have HR2 : Hid (Rd w2 w2.heap.size 1 A n (ss.map Value.string)) := (HR1.out.below hb2).mono hb2.size
  have HB2 := Lib.hid hb2
  have HC2 : Hid (B0 w2 w.heap.size (.slice A n c) (.int .i64 tk) (.int .i64 kn) (.int .i64 k) (.int .i64 num) (.int .i64 t) (.string b)) := HC1.out.below hb2 (by have := HC1.out.2.2.lt; omega)
  clear hb2
  obtain ⟨⟨q0, q1, q2, z0, z1, z2⟩, ⟨f0, f1, f2, f3⟩, ⟨r0, r1, r2, y0, y1, y2⟩, hs⟩ := HC2.out.out
  rw [HV.out]
  go_wp2
  refine bodyPost_ret (v := .tuple #[sideVal (.slice none 0 0) ⟨[], 0, 0⟩, .string noBytes, .slice none 0 0, .int .i64 11]) (by simp [results, Try.results47, go_sem, sideVal, r0, r1, r2, noBytes]) rfl ⟨none, 0, none, 0, rfl, Nat.le_refl _, Nat.zero_le _, Nat.le_refl _, Nat.zero_le _, World.ownsRow_nil _ _ _ _, World.ownsRow_nil _ _ _ _, ?_⟩
  repeat (refine Below.setCell ?_ (by first | (simp; done) | (simp; omega)) _)
  exact HL.out.trans ((HB1.out.trans (HB2.out.mono HB1.out.size)).mono (by have := HZ.out; omega))


set_option maxHeartbeats 1000000 in
theorem rtake_data_a (hnm : n ≤ maxLen) (hln : ss.length = n) (hr : Rd w w.heap.size 1 A n (ss.map Value.string)) (hg : goodB ⟨ss, tk, kn⟩ = true) (hv : validB ⟨1, tk + 1, t, b⟩ = true) (hn : n ≤ 256) (h1 : 0 ≤ tk) (h2 : tk < 1099511627776) (k1 : kn < t) (k2 : t ≤ n) :
    Calls Try.prog 47 #[sideVal (.slice A n c) ⟨ss, tk, kn⟩, (Fr.mk 1 (tk + 1) t b).val] w (TakeOut w ⟨⟨ss, tk + 1, t⟩, b, [], 0⟩) := by
  obtain ⟨W, hW⟩ : ∃ W, W = ((w.alloc (.cells #[.slice A n c, .int .i64 tk, .int .i64 kn] 33)).alloc (.cells #[.int .i64 1, .int .i64 (tk + 1), .int .i64 t, .string b] 44)).alloc (.cells #[.slice none 0 0, .int .i64 0, .int .i64 0] 33) := ⟨_, rfl⟩
  have hrW : Rd W W.heap.size 1 A n (ss.map Value.string) := by rw [hW]; exact (((hr.alloc (Nat.le_refl _) _).alloc (by simp) _).alloc (by simp; omega) _).mono (by simp; omega)
  have hB : B0 W w.heap.size (.slice A n c) (.int .i64 tk) (.int .i64 kn) (.int .i64 1) (.int .i64 (tk + 1)) (.int .i64 t) (.string b) := by rw [hW]; exact B0.new _ _ _ _ _ _ _ _
  have hz : W.heap.size = w.heap.size + 1 + 1 + 1 := by rw [hW]; simp
  have hbl : Below w.heap.size w W := by rw [hW]; exact (((Below.refl _ w).alloc (Nat.le_refl _) _).alloc (by simp) _).alloc (by simp; omega) _
  have HRW := Lib.hid hrW
  have HB := Lib.hid hB
  have HZ := Lib.hid hz
  have HL := Lib.hid hbl
  have HG := Lib.hid hg
  clear hB hz hbl hg hr hrW
  unfold sideVal Fr.val
  go_enter Try.func47, Try.ntmps47
  go_wp2_with fail
  rw [← hW]
  clear hW
  refine (rgood_any A n c ⟨ss, tk, kn⟩ W hnm HRW.out).mono ?_
  rintro e w1 ⟨rfl, hb1⟩
  have HR1 : Hid (Rd w1 w1.heap.size 1 A n (ss.map Value.string)) := (HRW.out.below hb1).mono hb1.size
  have HB1 := Lib.hid hb1
  have HC1 : Hid (B0 w1 w.heap.size (.slice A n c) (.int .i64 tk) (.int .i64 kn) (.int .i64 1) (.int .i64 (tk + 1)) (.int .i64 t) (.string b)) := HB.out.below hb1 (by have := HZ.out; omega)
  clear hb1
  obtain ⟨⟨q0, q1, q2, z0, z1, z2⟩, ⟨f0, f1, f2, f3⟩, ⟨r0, r1, r2, y0, y1, y2⟩, hs⟩ := HC1.out.out
  rw [HG.out]
  have HV := Lib.hid hv
  clear hv
  go_wp2_with fail
  refine (rvalid_any ⟨1, (tk + 1), t, b⟩ w1).mono ?_
  rintro e w2 ⟨rfl, hb2⟩
  clear q0 q1 q2 z0 z1 z2 f0 f1 f2 f3 r0 r1 r2 y0 y1 y2 hs
  have HR2 : Hid (Rd w2 w2.heap.size 1 A n (ss.map Value.string)) := (HR1.out.below hb2).mono hb2.size
  have HB2 := Lib.hid hb2
  have HC2 : Hid (B0 w2 w.heap.size (.slice A n c) (.int .i64 tk) (.int .i64 kn) (.int .i64 1) (.int .i64 (tk + 1)) (.int .i64 t) (.string b)) := HC1.out.below hb2 (by have := HC1.out.2.2.lt; omega)
  clear hb2
  obtain ⟨⟨q0, q1, q2, z0, z1, z2⟩, ⟨f0, f1, f2, f3⟩, ⟨r0, r1, r2, y0, y1, y2⟩, hs⟩ := HC2.out.out
  rw [HV.out]
  have HLN := Lib.hid hln
  clear hln
  go_wp2_with fail
  refine (rcopied_any A n c ⟨ss, tk, kn⟩ w2 (by omega) HR2.out).mono ?_
  rintro e w3 ⟨A1, c1, rfl, hn1, hm1, hown, hb3⟩
  have hs2 := Lib.hid hs
  clear q0 q1 q2 z0 z1 z2 f0 f1 f2 f3 r0 r1 r2 y0 y1 y2 hs
  have HB3 := Lib.hid hb3
  have HC3 : Hid (B0 w3 w.heap.size (.slice A n c) (.int .i64 tk) (.int .i64 kn) (.int .i64 1) (.int .i64 (tk + 1)) (.int .i64 t) (.string b)) := HC2.out.below hb3 (by have := HC2.out.2.2.lt; omega)
  have HO : Hid (w3.ownsRow w2.heap.size 9 1 (.slice A1 n c1) n (ss.map Value.string)) := by have := HLN.out; dsimp only at hown; rw [this] at hown; exact hown
  have HR3 : Hid (Rd w3 w3.heap.size 1 A n (ss.map Value.string)) := (HR2.out.below hb3).mono hb3.size
  have hlow : w.heap.size + 1 + 1 < w2.heap.size := hs2.out
  have hlow3 : w2.heap.size ≤ w3.heap.size := hb3.size
  clear hb3 hown
  obtain ⟨⟨q0, q1, q2, z0, z1, z2⟩, ⟨f0, f1, f2, f3⟩, ⟨r0, r1, r2, y0, y1, y2⟩, hs⟩ := HC3.out.out
  have hg3 : w.heap.size < w3.heap.size := by omega
  have hg4 : w.heap.size + 1 < w3.heap.size := by omega
  have hg5 : w.heap.size + 1 + 1 < w3.heap.size := by omega
  dsimp only at hn1 ⊢
  rw [HLN.out] at hn1 ⊢
  unfold sideVal
  go_upto_region 21 with (fail)
  obtain ⟨W4, hW4⟩ : ∃ W4, W4 = w3.alloc (.cells #[.slice A1 n c1, .int .i64 (tk + 1), .int .i64 t] 33) := ⟨_, rfl⟩
  have HC4 : Hid (B0 W4 w.heap.size (.slice A n c) (.int .i64 tk) (.int .i64 kn) (.int .i64 1) (.int .i64 (tk + 1)) (.int .i64 t) (.string b)) := by rw [hW4]; exact HC3.out.alloc _
  have HK4 : Hid (Bk W4 w3.heap.size 33 #[.slice A1 n c1, .int .i64 (tk + 1), .int .i64 t]) := by rw [hW4]; exact Bk.new _ _ _
  have HO4 : Hid (W4.ownsRow w2.heap.size 9 1 (.slice A1 n c1) n (ss.map Value.string)) := by rw [hW4]; exact HO.out.alloc _
  have HB4 : Hid (Below w.heap.size w W4) := by
    rw [hW4]
    exact (HL.out.trans (((HB1.out.trans (HB2.out.mono HB1.out.size)).trans (HB3.out.mono (Nat.le_trans HB1.out.size HB2.out.size))).mono (by have := HZ.out; omega))).alloc (by omega) _
  have HR4 : Hid (Rd W4 w3.heap.size 1 A n (ss.map Value.string)) := by rw [hW4]; exact HR3.out.alloc (Nat.le_refl _) _
  have hz4 : w3.heap.size < W4.heap.size := by rw [hW4]; simp
  rw [← hW4]
  clear hW4 q0 q1 q2 z0 z1 z2 f0 f1 f2 f3 r0 r1 r2 y0 y1 y2 hs
  obtain ⟨⟨q0, q1, q2, z0, z1, z2⟩, ⟨f0, f1, f2, f3⟩, ⟨r0, r1, r2, y0, y1, y2⟩, hs⟩ := HC4.out.out
  obtain ⟨o0, o1, o2, x0, x1, x2, hx⟩ := HK4.out.three
  go_region
  go_wp2
  refine bodyPost_ret (v := .tuple #[sideVal (.slice A1 n c1) ⟨ss, tk + 1, t⟩, .string b, .slice none 0 0, .int .i64 0]) (by simp [results, Try.results47, go_sem, sideVal, r0, r1, r2]) rfl ⟨A1, c1, none, 0, (by dsimp only; rw [HLN.out]; rfl), by dsimp only; rw [HLN.out]; exact hn1, hm1, Nat.le_refl _, Nat.zero_le _, ?_, World.ownsRow_nil _ _ _ _, ?_⟩
  · dsimp only
    rw [HLN.out]
    refine own_mono (base := w2.heap.size) ?_ (by omega)
    refine World.ownsRow.drew ?_
    repeat (refine ownsRow_setCell_below ?_ (by first | (simp; omega) | (simp; done)) _)
    exact HO4.out
  · refine Below.drew ?_
    repeat (refine Below.setCell ?_ (by first | (simp; done) | (simp; omega)) _)
    exact HB4.out


set_option maxHeartbeats 1000000 in
theorem rtake_data_b (hnm : n ≤ maxLen) (hln : ss.length = n) (hr : Rd w w.heap.size 1 A n (ss.map Value.string)) (hg : goodB ⟨ss, tk, kn⟩ = true) (hv : validB ⟨1, tk + 1, t, b⟩ = true) (hn : n ≤ 256) (h1 : 0 ≤ tk) (h2 : tk < 1099511627776) (k1 : t ≤ kn) :
    Calls Try.prog 47 #[sideVal (.slice A n c) ⟨ss, tk, kn⟩, (Fr.mk 1 (tk + 1) t b).val] w (TakeOut w ⟨⟨ss, tk + 1, kn⟩, b, [], 0⟩) := by
  obtain ⟨W, hW⟩ : ∃ W, W = ((w.alloc (.cells #[.slice A n c, .int .i64 tk, .int .i64 kn] 33)).alloc (.cells #[.int .i64 1, .int .i64 (tk + 1), .int .i64 t, .string b] 44)).alloc (.cells #[.slice none 0 0, .int .i64 0, .int .i64 0] 33) := ⟨_, rfl⟩
  have hrW : Rd W W.heap.size 1 A n (ss.map Value.string) := by rw [hW]; exact (((hr.alloc (Nat.le_refl _) _).alloc (by simp) _).alloc (by simp; omega) _).mono (by simp; omega)
  have hB : B0 W w.heap.size (.slice A n c) (.int .i64 tk) (.int .i64 kn) (.int .i64 1) (.int .i64 (tk + 1)) (.int .i64 t) (.string b) := by rw [hW]; exact B0.new _ _ _ _ _ _ _ _
  have hz : W.heap.size = w.heap.size + 1 + 1 + 1 := by rw [hW]; simp
  have hbl : Below w.heap.size w W := by rw [hW]; exact (((Below.refl _ w).alloc (Nat.le_refl _) _).alloc (by simp) _).alloc (by simp; omega) _
  have HRW := Lib.hid hrW
  have HB := Lib.hid hB
  have HZ := Lib.hid hz
  have HL := Lib.hid hbl
  have HG := Lib.hid hg
  clear hB hz hbl hg hr hrW
  unfold sideVal Fr.val
  go_enter Try.func47, Try.ntmps47
  go_wp2_with fail
  rw [← hW]
  clear hW
  refine (rgood_any A n c ⟨ss, tk, kn⟩ W hnm HRW.out).mono ?_
  rintro e w1 ⟨rfl, hb1⟩
  have HR1 : Hid (Rd w1 w1.heap.size 1 A n (ss.map Value.string)) := (HRW.out.below hb1).mono hb1.size
  have HB1 := Lib.hid hb1
  have HC1 : Hid (B0 w1 w.heap.size (.slice A n c) (.int .i64 tk) (.int .i64 kn) (.int .i64 1) (.int .i64 (tk + 1)) (.int .i64 t) (.string b)) := HB.out.below hb1 (by have := HZ.out; omega)
  clear hb1
  obtain ⟨⟨q0, q1, q2, z0, z1, z2⟩, ⟨f0, f1, f2, f3⟩, ⟨r0, r1, r2, y0, y1, y2⟩, hs⟩ := HC1.out.out
  rw [HG.out]
  have HV := Lib.hid hv
  clear hv
  go_wp2_with fail
  refine (rvalid_any ⟨1, (tk + 1), t, b⟩ w1).mono ?_
  rintro e w2 ⟨rfl, hb2⟩
  clear q0 q1 q2 z0 z1 z2 f0 f1 f2 f3 r0 r1 r2 y0 y1 y2 hs
  have HR2 : Hid (Rd w2 w2.heap.size 1 A n (ss.map Value.string)) := (HR1.out.below hb2).mono hb2.size
  have HB2 := Lib.hid hb2
  have HC2 : Hid (B0 w2 w.heap.size (.slice A n c) (.int .i64 tk) (.int .i64 kn) (.int .i64 1) (.int .i64 (tk + 1)) (.int .i64 t) (.string b)) := HC1.out.below hb2 (by have := HC1.out.2.2.lt; omega)
  clear hb2
  obtain ⟨⟨q0, q1, q2, z0, z1, z2⟩, ⟨f0, f1, f2, f3⟩, ⟨r0, r1, r2, y0, y1, y2⟩, hs⟩ := HC2.out.out
  rw [HV.out]
  have HLN := Lib.hid hln
  clear hln
  go_wp2_with fail
  refine (rcopied_any A n c ⟨ss, tk, kn⟩ w2 (by omega) HR2.out).mono ?_
  rintro e w3 ⟨A1, c1, rfl, hn1, hm1, hown, hb3⟩
  have hs2 := Lib.hid hs
  clear q0 q1 q2 z0 z1 z2 f0 f1 f2 f3 r0 r1 r2 y0 y1 y2 hs
  have HB3 := Lib.hid hb3
  have HC3 : Hid (B0 w3 w.heap.size (.slice A n c) (.int .i64 tk) (.int .i64 kn) (.int .i64 1) (.int .i64 (tk + 1)) (.int .i64 t) (.string b)) := HC2.out.below hb3 (by have := HC2.out.2.2.lt; omega)
  have HO : Hid (w3.ownsRow w2.heap.size 9 1 (.slice A1 n c1) n (ss.map Value.string)) := by have := HLN.out; dsimp only at hown; rw [this] at hown; exact hown
  have HR3 : Hid (Rd w3 w3.heap.size 1 A n (ss.map Value.string)) := (HR2.out.below hb3).mono hb3.size
  have hlow : w.heap.size + 1 + 1 < w2.heap.size := hs2.out
  have hlow3 : w2.heap.size ≤ w3.heap.size := hb3.size
  clear hb3 hown
  obtain ⟨⟨q0, q1, q2, z0, z1, z2⟩, ⟨f0, f1, f2, f3⟩, ⟨r0, r1, r2, y0, y1, y2⟩, hs⟩ := HC3.out.out
  have hg3 : w.heap.size < w3.heap.size := by omega
  have hg4 : w.heap.size + 1 < w3.heap.size := by omega
  have hg5 : w.heap.size + 1 + 1 < w3.heap.size := by omega
  dsimp only at hn1 ⊢
  rw [HLN.out] at hn1 ⊢
  unfold sideVal
  go_upto_region 21 with (fail)
  obtain ⟨W4, hW4⟩ : ∃ W4, W4 = w3.alloc (.cells #[.slice A1 n c1, .int .i64 (tk + 1), .int .i64 kn] 33) := ⟨_, rfl⟩
  have HC4 : Hid (B0 W4 w.heap.size (.slice A n c) (.int .i64 tk) (.int .i64 kn) (.int .i64 1) (.int .i64 (tk + 1)) (.int .i64 t) (.string b)) := by rw [hW4]; exact HC3.out.alloc _
  have HK4 : Hid (Bk W4 w3.heap.size 33 #[.slice A1 n c1, .int .i64 (tk + 1), .int .i64 kn]) := by rw [hW4]; exact Bk.new _ _ _
  have HO4 : Hid (W4.ownsRow w2.heap.size 9 1 (.slice A1 n c1) n (ss.map Value.string)) := by rw [hW4]; exact HO.out.alloc _
  have HB4 : Hid (Below w.heap.size w W4) := by
    rw [hW4]
    exact (HL.out.trans (((HB1.out.trans (HB2.out.mono HB1.out.size)).trans (HB3.out.mono (Nat.le_trans HB1.out.size HB2.out.size))).mono (by have := HZ.out; omega))).alloc (by omega) _
  have HR4 : Hid (Rd W4 w3.heap.size 1 A n (ss.map Value.string)) := by rw [hW4]; exact HR3.out.alloc (Nat.le_refl _) _
  have hz4 : w3.heap.size < W4.heap.size := by rw [hW4]; simp
  rw [← hW4]
  clear hW4 q0 q1 q2 z0 z1 z2 f0 f1 f2 f3 r0 r1 r2 y0 y1 y2 hs
  obtain ⟨⟨q0, q1, q2, z0, z1, z2⟩, ⟨f0, f1, f2, f3⟩, ⟨r0, r1, r2, y0, y1, y2⟩, hs⟩ := HC4.out.out
  obtain ⟨o0, o1, o2, x0, x1, x2, hx⟩ := HK4.out.three
  go_region
  go_wp2
  refine bodyPost_ret (v := .tuple #[sideVal (.slice A1 n c1) ⟨ss, tk + 1, kn⟩, .string b, .slice none 0 0, .int .i64 0]) (by simp [results, Try.results47, go_sem, sideVal, r0, r1, r2]) rfl ⟨A1, c1, none, 0, (by dsimp only; rw [HLN.out]; rfl), by dsimp only; rw [HLN.out]; exact hn1, hm1, Nat.le_refl _, Nat.zero_le _, ?_, World.ownsRow_nil _ _ _ _, ?_⟩
  · dsimp only
    rw [HLN.out]
    refine own_mono (base := w2.heap.size) ?_ (by omega)
    refine World.ownsRow.drew ?_
    repeat (refine ownsRow_setCell_below ?_ (by first | (simp; omega) | (simp; done)) _)
    exact HO4.out
  · refine Below.drew ?_
    repeat (refine Below.setCell ?_ (by first | (simp; done) | (simp; omega)) _)
    exact HB4.out


set_option maxHeartbeats 1000000 in
theorem rtake_data_c (hnm : n ≤ maxLen) (hln : ss.length = n) (hr : Rd w w.heap.size 1 A n (ss.map Value.string)) (hg : goodB ⟨ss, tk, kn⟩ = true) (hv : validB ⟨1, tk + 1, t, b⟩ = true) (hn : n ≤ 256) (h1 : 0 ≤ tk) (h2 : tk < 1099511627776) (k1 : kn < t) (k2 : n < t) :
    Calls Try.prog 47 #[sideVal (.slice A n c) ⟨ss, tk, kn⟩, (Fr.mk 1 (tk + 1) t b).val] w (TakeOut w ⟨⟨ss, tk + 1, kn⟩, b, [], 0⟩) := by
  obtain ⟨W, hW⟩ : ∃ W, W = ((w.alloc (.cells #[.slice A n c, .int .i64 tk, .int .i64 kn] 33)).alloc (.cells #[.int .i64 1, .int .i64 (tk + 1), .int .i64 t, .string b] 44)).alloc (.cells #[.slice none 0 0, .int .i64 0, .int .i64 0] 33) := ⟨_, rfl⟩
  have hrW : Rd W W.heap.size 1 A n (ss.map Value.string) := by rw [hW]; exact (((hr.alloc (Nat.le_refl _) _).alloc (by simp) _).alloc (by simp; omega) _).mono (by simp; omega)
  have hB : B0 W w.heap.size (.slice A n c) (.int .i64 tk) (.int .i64 kn) (.int .i64 1) (.int .i64 (tk + 1)) (.int .i64 t) (.string b) := by rw [hW]; exact B0.new _ _ _ _ _ _ _ _
  have hz : W.heap.size = w.heap.size + 1 + 1 + 1 := by rw [hW]; simp
  have hbl : Below w.heap.size w W := by rw [hW]; exact (((Below.refl _ w).alloc (Nat.le_refl _) _).alloc (by simp) _).alloc (by simp; omega) _
  have HRW := Lib.hid hrW
  have HB := Lib.hid hB
  have HZ := Lib.hid hz
  have HL := Lib.hid hbl
  have HG := Lib.hid hg
  clear hB hz hbl hg hr hrW
  unfold sideVal Fr.val
  go_enter Try.func47, Try.ntmps47
  go_wp2_with fail
  rw [← hW]
  clear hW
  refine (rgood_any A n c ⟨ss, tk, kn⟩ W hnm HRW.out).mono ?_
  rintro e w1 ⟨rfl, hb1⟩
  have HR1 : Hid (Rd w1 w1.heap.size 1 A n (ss.map Value.string)) := (HRW.out.below hb1).mono hb1.size
  have HB1 := Lib.hid hb1
  have HC1 : Hid (B0 w1 w.heap.size (.slice A n c) (.int .i64 tk) (.int .i64 kn) (.int .i64 1) (.int .i64 (tk + 1)) (.int .i64 t) (.string b)) := HB.out.below hb1 (by have := HZ.out; omega)
  clear hb1
  obtain ⟨⟨q0, q1, q2, z0, z1, z2⟩, ⟨f0, f1, f2, f3⟩, ⟨r0, r1, r2, y0, y1, y2⟩, hs⟩ := HC1.out.out
  rw [HG.out]
  have HV := Lib.hid hv
  clear hv
  go_wp2_with fail
  refine (rvalid_any ⟨1, (tk + 1), t, b⟩ w1).mono ?_
  rintro e w2 ⟨rfl, hb2⟩
  clear q0 q1 q2 z0 z1 z2 f0 f1 f2 f3 r0 r1 r2 y0 y1 y2 hs
  have HR2 : Hid (Rd w2 w2.heap.size 1 A n (ss.map Value.string)) := (HR1.out.below hb2).mono hb2.size
  have HB2 := Lib.hid hb2
  have HC2 : Hid (B0 w2 w.heap.size (.slice A n c) (.int .i64 tk) (.int .i64 kn) (.int .i64 1) (.int .i64 (tk + 1)) (.int .i64 t) (.string b)) := HC1.out.below hb2 (by have := HC1.out.2.2.lt; omega)
  clear hb2
  obtain ⟨⟨q0, q1, q2, z0, z1, z2⟩, ⟨f0, f1, f2, f3⟩, ⟨r0, r1, r2, y0, y1, y2⟩, hs⟩ := HC2.out.out
  rw [HV.out]
  have HLN := Lib.hid hln
  clear hln
  go_wp2_with fail
  refine (rcopied_any A n c ⟨ss, tk, kn⟩ w2 (by omega) HR2.out).mono ?_
  rintro e w3 ⟨A1, c1, rfl, hn1, hm1, hown, hb3⟩
  have hs2 := Lib.hid hs
  clear q0 q1 q2 z0 z1 z2 f0 f1 f2 f3 r0 r1 r2 y0 y1 y2 hs
  have HB3 := Lib.hid hb3
  have HC3 : Hid (B0 w3 w.heap.size (.slice A n c) (.int .i64 tk) (.int .i64 kn) (.int .i64 1) (.int .i64 (tk + 1)) (.int .i64 t) (.string b)) := HC2.out.below hb3 (by have := HC2.out.2.2.lt; omega)
  have HO : Hid (w3.ownsRow w2.heap.size 9 1 (.slice A1 n c1) n (ss.map Value.string)) := by have := HLN.out; dsimp only at hown; rw [this] at hown; exact hown
  have HR3 : Hid (Rd w3 w3.heap.size 1 A n (ss.map Value.string)) := (HR2.out.below hb3).mono hb3.size
  have hlow : w.heap.size + 1 + 1 < w2.heap.size := hs2.out
  have hlow3 : w2.heap.size ≤ w3.heap.size := hb3.size
  clear hb3 hown
  obtain ⟨⟨q0, q1, q2, z0, z1, z2⟩, ⟨f0, f1, f2, f3⟩, ⟨r0, r1, r2, y0, y1, y2⟩, hs⟩ := HC3.out.out
  have hg3 : w.heap.size < w3.heap.size := by omega
  have hg4 : w.heap.size + 1 < w3.heap.size := by omega
  have hg5 : w.heap.size + 1 + 1 < w3.heap.size := by omega
  dsimp only at hn1 ⊢
  rw [HLN.out] at hn1 ⊢
  unfold sideVal
  go_upto_region 21 with (fail)
  obtain ⟨W4, hW4⟩ : ∃ W4, W4 = w3.alloc (.cells #[.slice A1 n c1, .int .i64 (tk + 1), .int .i64 kn] 33) := ⟨_, rfl⟩
  have HC4 : Hid (B0 W4 w.heap.size (.slice A n c) (.int .i64 tk) (.int .i64 kn) (.int .i64 1) (.int .i64 (tk + 1)) (.int .i64 t) (.string b)) := by rw [hW4]; exact HC3.out.alloc _
  have HK4 : Hid (Bk W4 w3.heap.size 33 #[.slice A1 n c1, .int .i64 (tk + 1), .int .i64 kn]) := by rw [hW4]; exact Bk.new _ _ _
  have HO4 : Hid (W4.ownsRow w2.heap.size 9 1 (.slice A1 n c1) n (ss.map Value.string)) := by rw [hW4]; exact HO.out.alloc _
  have HB4 : Hid (Below w.heap.size w W4) := by
    rw [hW4]
    exact (HL.out.trans (((HB1.out.trans (HB2.out.mono HB1.out.size)).trans (HB3.out.mono (Nat.le_trans HB1.out.size HB2.out.size))).mono (by have := HZ.out; omega))).alloc (by omega) _
  have HR4 : Hid (Rd W4 w3.heap.size 1 A n (ss.map Value.string)) := by rw [hW4]; exact HR3.out.alloc (Nat.le_refl _) _
  have hz4 : w3.heap.size < W4.heap.size := by rw [hW4]; simp
  rw [← hW4]
  clear hW4 q0 q1 q2 z0 z1 z2 f0 f1 f2 f3 r0 r1 r2 y0 y1 y2 hs
  obtain ⟨⟨q0, q1, q2, z0, z1, z2⟩, ⟨f0, f1, f2, f3⟩, ⟨r0, r1, r2, y0, y1, y2⟩, hs⟩ := HC4.out.out
  obtain ⟨o0, o1, o2, x0, x1, x2, hx⟩ := HK4.out.three
  go_region
  go_wp2
  refine bodyPost_ret (v := .tuple #[sideVal (.slice A1 n c1) ⟨ss, tk + 1, kn⟩, .string b, .slice none 0 0, .int .i64 0]) (by simp [results, Try.results47, go_sem, sideVal, r0, r1, r2]) rfl ⟨A1, c1, none, 0, (by dsimp only; rw [HLN.out]; rfl), by dsimp only; rw [HLN.out]; exact hn1, hm1, Nat.le_refl _, Nat.zero_le _, ?_, World.ownsRow_nil _ _ _ _, ?_⟩
  · dsimp only
    rw [HLN.out]
    refine own_mono (base := w2.heap.size) ?_ (by omega)
    refine World.ownsRow.drew ?_
    repeat (refine ownsRow_setCell_below ?_ (by first | (simp; omega) | (simp; done)) _)
    exact HO4.out
  · refine Below.drew ?_
    repeat (refine Below.setCell ?_ (by first | (simp; done) | (simp; omega)) _)
    exact HB4.out

end

end Go.Proofs.Ytnbndhmdfheikaa
