/- Walk: SessStays where the end can be, in four ways. By gen_stays.py. -/
import Derived.Test.YtkklghdmnkdofaaP1
import Derived.Test.YtkklghdmnkdofaaLSends
namespace Go.Proofs.Ytkklghdmnkdofaa
open Go.RowKit

set_option maxRecDepth 100000 in
set_option maxHeartbeats 4000000 in
theorem stays_ff (A : Option Addr) (n c : Nat) (s : Sd) (f : Fr) (msg : ByteArray) (w : World) (hnm : n ≤ maxLen) (hr : Rd w w.heap.size 1 A n (s.sent.map Value.string)) (hgb : goodB s = true)
    (ss : List ByteArray) (tk kn er : Int) (x : Fr) (hs1 : sendS s msg = ⟨⟨ss, tk, kn⟩, x, er⟩) (s5 : List ByteArray) (tk5 kn5 er5 : Int) (m5 : ByteArray) (l : List Fr) (hs5 : takeS s f = ⟨⟨s5, tk5, kn5⟩, m5, l, er5⟩)
    (h1 : er ≠ 0) (h5 : er5 ≠ 0) :
    Calls Try.prog 6 #[sideVal (.slice A n c) s, f.val, .string msg] w fun e w' => e = .returned (.bool true) ∧ Below w.heap.size w w' := by
  have hln : s.sent.length = n := by simpa using hr.1
  obtain ⟨W, hW⟩ : ∃ W, W = (w.alloc (.cells #[.slice A n c, .int .i64 s.taken, .int .i64 s.known] 24)).alloc (.cells #[.int .i64 f.kind, .int .i64 f.num, .int .i64 f.taken, .string f.body] 26) := ⟨_, rfl⟩
  have hrW : Rd W W.heap.size 1 A n (s.sent.map Value.string) := by rw [hW]; exact ((hr.alloc (Nat.le_refl _) _).alloc (by simp) _).mono (by simp; omega)
  have hB0 : Bk W w.heap.size 24 #[.slice A n c, .int .i64 s.taken, .int .i64 s.known] := by rw [hW]; exact (Bk.new w _ _).alloc _
  have hB1 : Bk W (w.heap.size + 1) 26 #[.int .i64 f.kind, .int .i64 f.num, .int .i64 f.taken, .string f.body] := by rw [hW]; exact Bk.second _ _ _ _
  have hbl : Below w.heap.size w W := by rw [hW]; exact ((Below.refl _ w).alloc (Nat.le_refl _) _).alloc (by simp) _
  have hz : W.heap.size = w.heap.size + 1 + 1 := by rw [hW]; simp
  have ht1 := fun (W' : World) (h : Rd W' W'.heap.size 1 A n (s.sent.map Value.string)) => send_any A n c s msg W' hnm h
  rw [hs1] at ht1
  have ht5 := fun (W' : World) (h : Rd W' W'.heap.size 1 A n (s.sent.map Value.string)) => take_any A n c s f W' hnm h
  rw [hs5] at ht5
  have h1' : (er == 0) = false := by simpa using h1
  have hp5 := take_err (f := f) hgb (by rw [hs5]; exact h5)
  rw [hs5] at hp5
  have HP5 := Lib.hid hp5
  clear hp5
  have h5' : (er5 == 0) = false := by simpa using h5
  have h5'' : (er5 != 0) = true := by simpa using h5
  have hpt := tick_stays hgb
  rw [hln] at hpt
  have HPT := Lib.hid hpt
  have HT1 := Lib.hid ht1
  have HT5 := Lib.hid ht5
  have HGB := Lib.hid hgb
  have HRw := Lib.hid hr
  have HLN := Lib.hid hln
  have hpg := good_parts hgb
  have hn256 : n ≤ 256 := by omega
  have htk0 : 0 ≤ s.taken := hpg.2.2.2.1
  have htk1 : s.taken ≤ 1099511627776 := hpg.2.2.2.2.1
  clear hpt ht1 ht5 hgb hr hln hpg h1 h5 hs1 hs5
  unfold sideVal Fr.val
  go_enter Try.func6, Try.ntmps6
  go_wp2_with fail
  rw [← hW]
  clear hW
  refine (wakes_any W).mono ?_
  rintro e w1 ⟨rfl, hb1⟩
  have HBa1 : Hid (Bk w1 w.heap.size 24 #[.slice A n c, .int .i64 s.taken, .int .i64 s.known]) := hB0.below hb1 (by omega)
  have HBb1 : Hid (Bk w1 (w.heap.size + 1) 26 #[.int .i64 f.kind, .int .i64 f.num, .int .i64 f.taken, .string f.body]) := hB1.below hb1 (by omega)
  have HL1 : Hid (Below w.heap.size w w1) := hbl.trans (hb1.mono (by omega))
  clear hb1 hB0 hB1 hbl hrW hz
  obtain ⟨q0, q1, q2, z0, z1, z2, hg⟩ := HBa1.out.three
  go_wp2_with fail
  refine (good_any A n c s w1 hnm ((HRw.out.below HL1.out).mono HL1.out.size)).mono ?_
  rintro e w2 ⟨rfl, hb2⟩
  clear q0 q1 q2 z0 z1 z2 hg
  rw [HGB.out]
  have HBa2 : Hid (Bk w2 w.heap.size 24 #[.slice A n c, .int .i64 s.taken, .int .i64 s.known]) := HBa1.out.below hb2 HBa1.out.lt
  have HBb2 : Hid (Bk w2 (w.heap.size + 1) 26 #[.int .i64 f.kind, .int .i64 f.num, .int .i64 f.taken, .string f.body]) := HBb1.out.below hb2 HBb1.out.lt
  have HL2 : Hid (Below w.heap.size w w2) := HL1.out.trans (hb2.mono HL1.out.size)
  clear hb2
  obtain ⟨q0, q1, q2, z0, z1, z2, hg⟩ := HBa2.out.three
  go_wp2_with fail
  refine (HT1.out w2 ((HRw.out.below HL2.out).mono HL2.out.size)).mono ?_
  rintro e w3 ⟨A1, c1, rfl, hc1, hm1, ho1, hb3⟩
  clear q0 q1 q2 z0 z1 z2 hg
  dsimp only at hc1 ho1 ⊢
  unfold sideVal Fr.val
  dsimp only
  have HBa3 : Hid (Bk w3 w.heap.size 24 #[.slice A n c, .int .i64 s.taken, .int .i64 s.known]) := HBa2.out.below hb3 HBa2.out.lt
  have HBb3 : Hid (Bk w3 (w.heap.size + 1) 26 #[.int .i64 f.kind, .int .i64 f.num, .int .i64 f.taken, .string f.body]) := HBb2.out.below hb3 HBb2.out.lt
  have HL3 : Hid (Below w.heap.size w w3) := HL2.out.trans (hb3.mono HL2.out.size)
  obtain ⟨W3, hW3⟩ : ∃ W3, W3 = (w3.alloc (.cells #[.slice A1 ss.length c1, .int .i64 tk, .int .i64 kn] 24)).alloc (.cells #[.int .i64 x.kind, .int .i64 x.num, .int .i64 x.taken, .string x.body] 26) := ⟨_, rfl⟩
  have HRc : Hid (Rd W3 W3.heap.size 1 A1 ss.length (ss.map Value.string)) := by rw [hW3]; exact (((Rd.of_own ho1).alloc (Nat.le_refl _) _).alloc (by simp) _).mono (by simp; omega)
  have HBa4 : Hid (Bk W3 w.heap.size 24 #[.slice A n c, .int .i64 s.taken, .int .i64 s.known]) := by rw [hW3]; exact (HBa3.out.alloc _).alloc _
  have HBb4 : Hid (Bk W3 (w.heap.size + 1) 26 #[.int .i64 f.kind, .int .i64 f.num, .int .i64 f.taken, .string f.body]) := by rw [hW3]; exact (HBb3.out.alloc _).alloc _
  have HBc4 : Hid (Bk W3 w3.heap.size 24 #[.slice A1 ss.length c1, .int .i64 tk, .int .i64 kn]) := by rw [hW3]; exact (Bk.new _ _ _).alloc _
  have HBd4 : Hid (Bk W3 (w3.heap.size + 1) 26 #[.int .i64 x.kind, .int .i64 x.num, .int .i64 x.taken, .string x.body]) := by rw [hW3]; exact Bk.second _ _ _ _
  have HL4 : Hid (Below w.heap.size w W3) := by rw [hW3]; exact (HL3.out.alloc HL3.out.size _).alloc (by have := HL3.out.size; simp; omega) _
  have hx3 : w.heap.size < w3.heap.size := HBa3.out.lt
  have HN1 : Hid (ss.length ≤ maxLen) := Nat.le_trans hc1 hm1
  clear hb3 ho1 hc1 hm1
  obtain ⟨q0, q1, q2, z0, z1, z2, hg⟩ := HBa3.out.three
  go_upto_region 6 with (fail)
  rw [← hW3]
  clear hW3 q0 q1 q2 z0 z1 z2 hg
  obtain ⟨q0, q1, q2, z0, z1, z2, hg⟩ := HBa4.out.three
  obtain ⟨r0, r1, r2, y0, y1, y2, hg2⟩ := HBc4.out.three
  obtain ⟨f0, f1, f2, f3, e0, e1, e2, e3, hg3⟩ := HBd4.out.four
  go_wp2_with fail
  obtain ⟨w5, hw5⟩ : ∃ w5, w5 = W3 := ⟨_, rfl⟩
  have HBa6 : Hid (Bk w5 w.heap.size 24 #[.slice A n c, .int .i64 s.taken, .int .i64 s.known]) := by rw [hw5]; exact HBa4.out
  have HBb6 : Hid (Bk w5 (w.heap.size + 1) 26 #[.int .i64 f.kind, .int .i64 f.num, .int .i64 f.taken, .string f.body]) := by rw [hw5]; exact HBb4.out
  have HL6 : Hid (Below w.heap.size w w5) := by rw [hw5]; exact HL4.out
  rw [← hw5]
  clear hw5 q0 q1 q2 z0 z1 z2 hg r0 r1 r2 y0 y1 y2 hg2 f0 f1 f2 f3 e0 e1 e2 e3 hg3
  obtain ⟨q0, q1, q2, z0, z1, z2, hg⟩ := HBa6.out.three
  refine (tick_yes A n c s w5 hnm ((HRw.out.below HL6.out).mono HL6.out.size) HGB.out).mono ?_
  rintro e w6 ⟨rfl, hb6⟩
  clear q0 q1 q2 z0 z1 z2 hg
  have HBa7 : Hid (Bk w6 w.heap.size 24 #[.slice A n c, .int .i64 s.taken, .int .i64 s.known]) := HBa6.out.below hb6 HBa6.out.lt
  have HBb7 : Hid (Bk w6 (w.heap.size + 1) 26 #[.int .i64 f.kind, .int .i64 f.num, .int .i64 f.taken, .string f.body]) := HBb6.out.below hb6 HBb6.out.lt
  have HL7 : Hid (Below w.heap.size w w6) := HL6.out.trans (hb6.mono HL6.out.size)
  have hx6 : w.heap.size < w6.heap.size := HBa7.out.lt
  have hx6' : w.heap.size + 1 < w6.heap.size := HBb7.out.lt
  clear hb6
  obtain ⟨q0, q1, q2, z0, z1, z2, hg⟩ := HBa7.out.three
  obtain ⟨f0, f1, f2, f3, e0, e1, e2, e3, hg3⟩ := HBb7.out.four
  go_wp2_with fail
  refine (valid_any ⟨3, n, s.taken, noBytes⟩ (w6.alloc (.cells #[.int .i64 3, .int .i64 (n : Int), .int .i64 s.taken, .string noBytes] 26))).mono ?_
  rintro e w7 ⟨rfl, hb7⟩
  rw [HPT.out]
  clear q0 q1 q2 z0 z1 z2 hg f0 f1 f2 f3 e0 e1 e2 e3 hg3
  have HBa8 : Hid (Bk w7 w.heap.size 24 #[.slice A n c, .int .i64 s.taken, .int .i64 s.known]) := (HBa7.out.alloc _).below hb7 (by simp; omega)
  have HBb8 : Hid (Bk w7 (w.heap.size + 1) 26 #[.int .i64 f.kind, .int .i64 f.num, .int .i64 f.taken, .string f.body]) := (HBb7.out.alloc _).below hb7 (by simp; omega)
  have HL8 : Hid (Below w.heap.size w w7) := (HL7.out.alloc (by omega) _).trans (hb7.mono (by simp; omega))
  clear hb7
  obtain ⟨q0, q1, q2, z0, z1, z2, hg⟩ := HBa8.out.three
  obtain ⟨f0, f1, f2, f3, e0, e1, e2, e3, hg3⟩ := HBb8.out.four
  go_wp2_with fail
  refine (HT5.out w7 ((HRw.out.below HL8.out).mono HL8.out.size)).mono ?_
  rintro e w8 ⟨A5, c5, X5, d5, rfl, hc5, hm5, hd5, he5, ho5, hx5, hb8⟩
  clear q0 q1 q2 z0 z1 z2 hg f0 f1 f2 f3 e0 e1 e2 e3 hg3
  dsimp only at hc5 hd5 ho5 hx5 ⊢
  unfold sideVal
  dsimp only
  have HBa9 : Hid (Bk w8 w.heap.size 24 #[.slice A n c, .int .i64 s.taken, .int .i64 s.known]) := HBa8.out.below hb8 HBa8.out.lt
  have HL9 : Hid (Below w.heap.size w w8) := HL8.out.trans (hb8.mono HL8.out.size)
  have hx8 : w.heap.size < w8.heap.size := HBa9.out.lt
  obtain ⟨W9, hW9⟩ : ∃ W9, W9 = w8.alloc (.cells #[.slice A5 s5.length c5, .int .i64 tk5, .int .i64 kn5] 24) := ⟨_, rfl⟩
  have HRd : Hid (Rd W9 W9.heap.size 1 A5 s5.length (s5.map Value.string)) := by rw [hW9]; exact ((Rd.of_own ho5).alloc (Nat.le_refl _) _).mono (by simp)
  have HRe : Hid (Rd W9 W9.heap.size 4 X5 l.length (frs l)) := by rw [hW9]; exact ((Rd.of_own hx5).alloc (Nat.le_refl _) _).mono (by simp)
  have HBaA : Hid (Bk W9 w.heap.size 24 #[.slice A n c, .int .i64 s.taken, .int .i64 s.known]) := by rw [hW9]; exact HBa9.out.alloc _
  have HBbA : Hid (Bk W9 w8.heap.size 24 #[.slice A5 s5.length c5, .int .i64 tk5, .int .i64 kn5]) := by rw [hW9]; exact Bk.new _ _ _
  have HLA : Hid (Below w.heap.size w W9) := by rw [hW9]; exact HL9.out.alloc (by omega) _
  have HN5 : Hid (s5.length ≤ maxLen) := Nat.le_trans hc5 hm5
  clear hb8 ho5 hx5 hc5 hm5 hd5 he5
  go_upto_region 12 with (fail)
  rw [← hW9]
  clear hW9
  have hm0 : m5.size = 0 := HP5.out.1
  have hl0 : l.length = 0 := by rw [HP5.out.2]; rfl
  have HM0 := Lib.hid hm0
  have hmz : (((m5.size : Nat) : Int) == 0) = true := by rw [hm0]; rfl
  have hlz : (((l.length : Nat) : Int) == 0) = true := by rw [hl0]; rfl
  clear hm0 hl0
  go_wp2
  go_ret
  exact ⟨rfl, HLA.out⟩

end Go.Proofs.Ytkklghdmnkdofaa
