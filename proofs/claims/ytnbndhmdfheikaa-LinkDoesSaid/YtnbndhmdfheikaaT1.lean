/- Walk: Take of the program, a good end. By gen_take.py. -/
import Derived.Test.YtnbndhmdfheikaaT0
namespace Go.Proofs.Ytnbndhmdfheikaa
open Go.RowKit

section
variable (A : Option Addr) (n c : Nat) (ss : List ByteArray) (tk kn t : Int) (b : ByteArray) (w : World)
set_option maxHeartbeats 1000000 in
theorem take_form (k num : Int) (hnm : n ≤ maxLen) (hr : Rd w w.heap.size 1 A n (ss.map Value.string)) (hg : goodB ⟨ss, tk, kn⟩ = true) (hv : validB ⟨k, num, t, b⟩ = false) :
    Calls Try.prog 31 #[sideVal (.slice A n c) ⟨ss, tk, kn⟩, (Fr.mk k num t b).val] w (TakeOut w ⟨⟨[], 0, 0⟩, noBytes, [], 11⟩) := by
  obtain ⟨W, hW⟩ : ∃ W, W = ((w.alloc (.cells #[.slice A n c, .int .i64 tk, .int .i64 kn] 33)).alloc (.cells #[.int .i64 k, .int .i64 num, .int .i64 t, .string b] 44)).alloc (.cells #[.slice none 0 0, .int .i64 0, .int .i64 0] 33) := ⟨_, rfl⟩
  have hrW : Rd W W.heap.size 1 A n (ss.map Value.string) := by rw [hW]; exact (((hr.alloc (Nat.le_refl _) _).alloc (by simp) _).alloc (by simp; omega) _).mono (by simp; omega)
  have hB : B0 W w.heap.size (.slice A n c) (.int .i64 tk) (.int .i64 kn) (.int .i64 k) (.int .i64 num) (.int .i64 t) (.string b) := by rw [hW]; exact B0.new _ _ _ _ _ _ _ _
  have hz : W.heap.size = w.heap.size + 1 + 1 + 1 := by rw [hW]; simp
  have hbl : Below w.heap.size w W := by rw [hW]; exact (((Below.refl _ w).alloc (Nat.le_refl _) _).alloc (by simp) _).alloc (by simp; omega) _
  have HRW := Lib.hid hrW
  have HB := Lib.hid hB
  have HZ := Lib.hid hz
  have HL := Lib.hid hbl
  have HG := Lib.hid hg
  have HV := Lib.hid hv
  clear hB hz hbl hg hv hr hrW
  unfold sideVal Fr.val
  go_enter Try.func31, Try.ntmps31
  go_wp2_with fail
  rw [← hW]
  clear hW
  refine (good_any A n c ⟨ss, tk, kn⟩ W hnm HRW.out).mono ?_
  rintro e w1 ⟨rfl, hb1⟩
  have HR1 : Hid (Rd w1 w1.heap.size 1 A n (ss.map Value.string)) := (HRW.out.below hb1).mono hb1.size
  have HB1 := Lib.hid hb1
  have HC1 : Hid (B0 w1 w.heap.size (.slice A n c) (.int .i64 tk) (.int .i64 kn) (.int .i64 k) (.int .i64 num) (.int .i64 t) (.string b)) := HB.out.below hb1 (by have := HZ.out; omega)
  clear hb1
  obtain ⟨⟨q0, q1, q2, z0, z1, z2⟩, ⟨f0, f1, f2, f3⟩, ⟨r0, r1, r2, y0, y1, y2⟩, hs⟩ := HC1.out.out
  rw [HG.out]
  go_wp2_with fail
  refine (valid_any ⟨k, num, t, b⟩ w1).mono ?_
  rintro e w2 ⟨rfl, hb2⟩
  clear q0 q1 q2 z0 z1 z2 f0 f1 f2 f3 r0 r1 r2 y0 y1 y2 hs
  have HR2 : Hid (Rd w2 w2.heap.size 1 A n (ss.map Value.string)) := (HR1.out.below hb2).mono hb2.size
  have HB2 := Lib.hid hb2
  have HC2 : Hid (B0 w2 w.heap.size (.slice A n c) (.int .i64 tk) (.int .i64 kn) (.int .i64 k) (.int .i64 num) (.int .i64 t) (.string b)) := HC1.out.below hb2 (by have := HC1.out.2.2.lt; omega)
  clear hb2
  obtain ⟨⟨q0, q1, q2, z0, z1, z2⟩, ⟨f0, f1, f2, f3⟩, ⟨r0, r1, r2, y0, y1, y2⟩, hs⟩ := HC2.out.out
  rw [HV.out]
  go_wp2
  refine bodyPost_ret (v := .tuple #[sideVal (.slice none 0 0) ⟨[], 0, 0⟩, .string noBytes, .slice none 0 0, .int .i64 11]) (by simp [results, Try.results31, go_sem, sideVal, r0, r1, r2, noBytes]) rfl ⟨none, 0, none, 0, rfl, Nat.le_refl _, Nat.zero_le _, Nat.le_refl _, Nat.zero_le _, World.ownsRow_nil _ _ _ _, World.ownsRow_nil _ _ _ _, ?_⟩
  repeat (refine Below.setCell ?_ (by first | (simp; done) | (simp; omega)) _)
  exact HL.out.trans ((HB1.out.trans (HB2.out.mono HB1.out.size)).mono (by have := HZ.out; omega))
end

end Go.Proofs.Ytnbndhmdfheikaa
