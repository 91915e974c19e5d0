/- Walk: Send of the program, by gen_send.py. -/
import Derived.Test.YtnbndhmdfheikaaR6
namespace Go.Proofs.Ytnbndhmdfheikaa
open Go.RowKit

section
variable (A : Option Addr) (n c : Nat) (ss : List ByteArray) (tk kn : Int) (m : ByteArray) (w : World)

theorem own_ne {w : World} {base e size n g : Nat} {t : TypeId} {cs : Array Value} {v : Value} {xs : List Value} (h : w.ownsRow base e size v n xs) (hg : Bk w g t cs) (hne : e ≠ t) : v.ownBlock ≠ some g := by
  rcases h.2 with ⟨rfl, _⟩ | ⟨g', cap, cur, rfl, _, hh, _⟩
  · simp [Value.ownBlock]
  · intro he
    have e' : g' = g := Option.some.inj he
    subst e'
    exact Bk.ne (t := e) hh hg hne rfl
/-- What is owned stays owned behind a store into a block of another element type. -/
theorem own_setCell {w : World} {base e size n g : Nat} {t : TypeId} {cs : Array Value} {v : Value} {xs : List Value} (h : w.ownsRow base e size v n xs) (hg : Bk w g t cs) (hne : e ≠ t) {p : Addr} (hp : p.block = g) (u : Value) :
    (w.setCell p u).ownsRow base e size v n xs := by
  have hn := own_ne h hg hne
  refine ⟨h.1, ?_⟩
  rcases h.2 with h2 | ⟨g', cap, cur, rfl, hb, hh, r⟩
  · exact .inl h2
  · refine .inr ⟨g', cap, cur, rfl, hb, ?_, r⟩
    rw [Below.heap_setCell _ _ _ _ (fun e' => hn (by simp [Value.ownBlock, e', hp]))]
    exact hh
set_option maxRecDepth 100000 in
set_option maxHeartbeats 1000000 in
theorem rsend_form (hn : n ≤ maxLen) (hr : Rd w w.heap.size 1 A n (ss.map Value.string)) (hg : goodB ⟨ss, tk, kn⟩ = true) (hf : ((m.size : Nat) : Int) < 1 ∨ (1 ≤ ((m.size : Nat) : Int) ∧ 4096 < ((m.size : Nat) : Int))) :
    Calls Try.prog 45 #[sideVal (.slice A n c) ⟨ss, tk, kn⟩, .string m] w (SendOut w ⟨⟨[], 0, 0⟩, zeroFr, 11⟩) := by
  rcases hf with hf | ⟨hf, hf'⟩
  all_goals
    obtain ⟨W, hW⟩ : ∃ W, W = ((w.alloc (.cells #[.slice A n c, .int .i64 tk, .int .i64 kn] 33)).alloc (.cells #[.slice none 0 0, .int .i64 0, .int .i64 0] 33)).alloc (.cells #[.int .i64 0, .int .i64 0, .int .i64 0, .string noBytes] 44) := ⟨_, rfl⟩
    have hrW : Rd W W.heap.size 1 A n (ss.map Value.string) := by rw [hW]; exact (((hr.alloc (Nat.le_refl _) _).alloc (by simp) _).alloc (by simp; omega) _).mono (by simp; omega)
    have hB : B1 W w.heap.size (.slice A n c) (.int .i64 tk) (.int .i64 kn) := by rw [hW]; exact B1.new _ _ _ _
    have hz : W.heap.size = w.heap.size + 1 + 1 + 1 := by rw [hW]; simp
    have hbl : Below w.heap.size w W := by rw [hW]; exact (((Below.refl _ w).alloc (Nat.le_refl _) _).alloc (by simp) _).alloc (by simp; omega) _
    have HRW := Lib.hid hrW
    have HB := Lib.hid hB
    have HZ := Lib.hid hz
    have HL := Lib.hid hbl
    have HG := Lib.hid hg
    have HW := Lib.hid hW
    clear hB hz hbl hg hW hr hrW
    unfold sideVal
    go_enter Try.func45, Try.ntmps45
    go_wp2_with fail
    have hW := HW.out
    unfold noBytes at hW
    rw [← hW]
    clear hW
    refine (rgood_any A n c ⟨ss, tk, kn⟩ W hn HRW.out).mono ?_
    rintro e w1 ⟨rfl, hb1⟩
    have HB1 := Lib.hid hb1
    have HR1 : Hid (Rd w1 w1.heap.size 1 A n (ss.map Value.string)) := (HRW.out.below hb1).mono hb1.size
    have HC1 : Hid (B1 w1 w.heap.size (.slice A n c) (.int .i64 tk) (.int .i64 kn)) := HB.out.below hb1 (by have := HZ.out; omega)
    clear hb1
    obtain ⟨⟨q0, q1, q2, z0, z1, z2⟩, ⟨f0, f1, f2, e0, e1, e2⟩, ⟨r0, r1, r2, r3, y0, y1, y2, y3⟩, hs⟩ := HC1.out.out
    rw [HG.out]
    go_wp2
    refine bodyPost_ret (v := .tuple #[sideVal (.slice none 0 0) ⟨[], 0, 0⟩, zeroFr.val, .int .i64 11]) (by simp [results, Try.results45, go_sem, sideVal, f0, f1, f2, r0, r1, r2, r3, noBytes, zeroFr, Fr.val]) rfl ⟨none, 0, rfl, Nat.le_refl _, Nat.zero_le _, World.ownsRow_nil _ _ _ _, ?_⟩
    repeat (refine Below.setCell ?_ (by first | (simp; done) | (simp; omega)) _)
    exact HL.out.trans (HB1.out.mono (by have := HZ.out; omega))
  
set_option maxRecDepth 100000 in
set_option maxHeartbeats 1000000 in
theorem rsend_room (hn : n ≤ maxLen) (hr : Rd w w.heap.size 1 A n (ss.map Value.string)) (hg : goodB ⟨ss, tk, kn⟩ = true) (hf : ¬ ((m.size : Nat) : Int) < 1) (hf' : ¬ 4096 < ((m.size : Nat) : Int)) (h256 : 256 ≤ n) :
    Calls Try.prog 45 #[sideVal (.slice A n c) ⟨ss, tk, kn⟩, .string m] w (SendOut w ⟨⟨[], 0, 0⟩, zeroFr, 40⟩) := by
  obtain ⟨W, hW⟩ : ∃ W, W = ((w.alloc (.cells #[.slice A n c, .int .i64 tk, .int .i64 kn] 33)).alloc (.cells #[.slice none 0 0, .int .i64 0, .int .i64 0] 33)).alloc (.cells #[.int .i64 0, .int .i64 0, .int .i64 0, .string noBytes] 44) := ⟨_, rfl⟩
  have hrW : Rd W W.heap.size 1 A n (ss.map Value.string) := by rw [hW]; exact (((hr.alloc (Nat.le_refl _) _).alloc (by simp) _).alloc (by simp; omega) _).mono (by simp; omega)
  have hB : B1 W w.heap.size (.slice A n c) (.int .i64 tk) (.int .i64 kn) := by rw [hW]; exact B1.new _ _ _ _
  have hz : W.heap.size = w.heap.size + 1 + 1 + 1 := by rw [hW]; simp
  have hbl : Below w.heap.size w W := by rw [hW]; exact (((Below.refl _ w).alloc (Nat.le_refl _) _).alloc (by simp) _).alloc (by simp; omega) _
  have HRW := Lib.hid hrW
  have HB := Lib.hid hB
  have HZ := Lib.hid hz
  have HL := Lib.hid hbl
  have HG := Lib.hid hg
  have HW := Lib.hid hW
  clear hB hz hbl hg hW hr hrW
  unfold sideVal
  go_enter Try.func45, Try.ntmps45
  go_wp2_with fail
  have hW := HW.out
  unfold noBytes at hW
  rw [← hW]
  clear hW
  refine (rgood_any A n c ⟨ss, tk, kn⟩ W hn HRW.out).mono ?_
  rintro e w1 ⟨rfl, hb1⟩
  have HB1 := Lib.hid hb1
  have HR1 : Hid (Rd w1 w1.heap.size 1 A n (ss.map Value.string)) := (HRW.out.below hb1).mono hb1.size
  have HC1 : Hid (B1 w1 w.heap.size (.slice A n c) (.int .i64 tk) (.int .i64 kn)) := HB.out.below hb1 (by have := HZ.out; omega)
  clear hb1
  obtain ⟨⟨q0, q1, q2, z0, z1, z2⟩, ⟨f0, f1, f2, e0, e1, e2⟩, ⟨r0, r1, r2, r3, y0, y1, y2, y3⟩, hs⟩ := HC1.out.out
  rw [HG.out]
  go_wp2
  refine bodyPost_ret (v := .tuple #[sideVal (.slice none 0 0) ⟨[], 0, 0⟩, zeroFr.val, .int .i64 40]) (by simp [results, Try.results45, go_sem, sideVal, f0, f1, f2, r0, r1, r2, r3, noBytes, zeroFr, Fr.val]) rfl ⟨none, 0, rfl, Nat.le_refl _, Nat.zero_le _, World.ownsRow_nil _ _ _ _, ?_⟩
  repeat (refine Below.setCell ?_ (by first | (simp; done) | (simp; omega)) _)
  exact HL.out.trans (HB1.out.mono (by have := HZ.out; omega))

set_option maxRecDepth 100000 in
set_option maxHeartbeats 1000000 in
theorem rsend_ok (hn : n ≤ maxLen) (hr : Rd w w.heap.size 1 A n (ss.map Value.string)) (hg : goodB ⟨ss, tk, kn⟩ = true) (hln : ss.length = n) (hf : ¬ ((m.size : Nat) : Int) < 1) (hf' : ¬ 4096 < ((m.size : Nat) : Int)) (h256 : n < 256) :
    Calls Try.prog 45 #[sideVal (.slice A n c) ⟨ss, tk, kn⟩, .string m] w (SendOut w ⟨⟨ss ++ [m], tk, kn⟩, ⟨1, (n : Int) + 1, tk, m⟩, 0⟩) := by
  obtain ⟨i0, hi, hz0, hz1, hz2⟩ := info_parts info9
  have HLN := Lib.hid hln
  clear hln
  obtain ⟨W, hW⟩ : ∃ W, W = ((w.alloc (.cells #[.slice A n c, .int .i64 tk, .int .i64 kn] 33)).alloc (.cells #[.slice none 0 0, .int .i64 0, .int .i64 0] 33)).alloc (.cells #[.int .i64 0, .int .i64 0, .int .i64 0, .string noBytes] 44) := ⟨_, rfl⟩
  have hrW : Rd W W.heap.size 1 A n (ss.map Value.string) := by rw [hW]; exact (((hr.alloc (Nat.le_refl _) _).alloc (by simp) _).alloc (by simp; omega) _).mono (by simp; omega)
  have hB : B1 W w.heap.size (.slice A n c) (.int .i64 tk) (.int .i64 kn) := by rw [hW]; exact B1.new _ _ _ _
  have hz : W.heap.size = w.heap.size + 1 + 1 + 1 := by rw [hW]; simp
  have hbl : Below w.heap.size w W := by rw [hW]; exact (((Below.refl _ w).alloc (Nat.le_refl _) _).alloc (by simp) _).alloc (by simp; omega) _
  have HRW := Lib.hid hrW
  have HB := Lib.hid hB
  have HZ := Lib.hid hz
  have HL := Lib.hid hbl
  have HG := Lib.hid hg
  have HW := Lib.hid hW
  clear hB hz hbl hg hW hr hrW
  unfold sideVal
  go_enter Try.func45, Try.ntmps45
  go_wp2_with fail
  have hW := HW.out
  unfold noBytes at hW
  rw [← hW]
  clear hW
  refine (rgood_any A n c ⟨ss, tk, kn⟩ W hn HRW.out).mono ?_
  rintro e w1 ⟨rfl, hb1⟩
  have HB1 := Lib.hid hb1
  have HR1 : Hid (Rd w1 w1.heap.size 1 A n (ss.map Value.string)) := (HRW.out.below hb1).mono hb1.size
  have HC1 : Hid (B1 w1 w.heap.size (.slice A n c) (.int .i64 tk) (.int .i64 kn)) := HB.out.below hb1 (by have := HZ.out; omega)
  clear hb1
  obtain ⟨⟨q0, q1, q2, z0, z1, z2⟩, ⟨f0, f1, f2, e0, e1, e2⟩, ⟨r0, r1, r2, r3, y0, y1, y2, y3⟩, hs⟩ := HC1.out.out
  rw [HG.out]
  go_wp2_with fail
  refine (rcopied_any A n c ⟨ss, tk, kn⟩ w1 (by omega) HR1.out).mono ?_
  rintro e w2 ⟨A1, c1, rfl, hn1, hm1, hown, hb2⟩
  have hs1 := Lib.hid hs
  clear q0 q1 q2 z0 z1 z2 f0 f1 f2 e0 e1 e2 r0 r1 r2 r3 y0 y1 y2 y3 hs
  have HB2 := Lib.hid hb2
  have HC2 : Hid (B1 w2 w.heap.size (.slice A n c) (.int .i64 tk) (.int .i64 kn)) := HC1.out.below hb2 (by have := HC1.out.2.2.lt; omega)
  have HO : Hid (w2.ownsRow w1.heap.size 9 1 (.slice A1 n c1) n (ss.map Value.string)) := by have := HLN.out; dsimp only at hown; rw [this] at hown; exact hown
  have hlow : w.heap.size + 1 + 1 < w1.heap.size := hs1.out
  clear hb2 hown
  obtain ⟨⟨q0, q1, q2, z0, z1, z2⟩, ⟨f0, f1, f2, e0, e1, e2⟩, ⟨r0, r1, r2, r3, y0, y1, y2, y3⟩, hs⟩ := HC2.out.out
  dsimp only at hn1 ⊢
  rw [HLN.out] at hn1 ⊢
  unfold sideVal
  go_upto_region 8 with (fail)
  obtain ⟨W3, hW3⟩ : ∃ W3, W3 = w2.alloc (.cells #[.slice A1 n c1, .int .i64 tk, .int .i64 kn] 33) := ⟨_, rfl⟩
  have HC3 : Hid (B1 W3 w.heap.size (.slice A n c) (.int .i64 tk) (.int .i64 kn)) := by rw [hW3]; exact HC2.out.alloc _
  have HK3 : Hid (Bk W3 w2.heap.size 33 #[.slice A1 n c1, .int .i64 tk, .int .i64 kn]) := by rw [hW3]; exact Bk.new _ _ _
  have HO3 : Hid (W3.ownsRow w1.heap.size 9 1 (.slice A1 n c1) n (ss.map Value.string)) := by rw [hW3]; exact HO.out.alloc _
  have hs3 : w1.heap.size ≤ W3.heap.size := by rw [hW3]; simpa using Nat.le_succ_of_le HB2.out.size
  have hs4 : w1.heap.size ≤ w2.heap.size := HB2.out.size
  have hz3 : w2.heap.size < W3.heap.size := by rw [hW3]; simp
  have HB3 : Hid (Below w.heap.size w W3) := by
    rw [hW3]
    exact (HL.out.trans ((HB1.out.trans (HB2.out.mono HB1.out.size)).mono (by have := HZ.out; omega))).alloc (by omega) _
  rw [← hW3]
  clear hW3 q0 q1 q2 z0 z1 z2 f0 f1 f2 e0 e1 e2 r0 r1 r2 r3 y0 y1 y2 y3 hs
  obtain ⟨⟨q0, q1, q2, z0, z1, z2⟩, ⟨f0, f1, f2, e0, e1, e2⟩, ⟨r0, r1, r2, r3, y0, y1, y2, y3⟩, hs⟩ := HC3.out.out
  obtain ⟨o0, o1, o2, x0, x1, x2, hx⟩ := HK3.out.three
  have ho3 : (W3.alloc (.cells #[.string m] 9)).ownsRow w1.heap.size 9 1 (.slice A1 n c1) n (ss.map Value.string) := HO3.out.alloc _
  have hr3 : Rd (W3.alloc (.cells #[.string m] 9)) (W3.heap.size + 1) 1 (some ⟨W3.heap.size, 0, none⟩) 1 [.string m] :=
    ⟨rfl, fun _ => ⟨_, rfl, by simp, World.news_of_block (fr := (0, 0)) (t := 9) (cs := #[.string m]) (heap_alloc_new W3 _)⟩⟩
  go_wp2_with (at_builtin; go_must (refine wpList_append_rd _ rfl (.tmp 32) (.tmp 34) _ rfl w1.heap.size 9 i0 _ 1 16 Try.underlying30 hi hz0 hz1 hz2 rfl (by omega) _ n _ rfl ho3 (W3.heap.size + 1) _ 1 1 _ rfl hr3 (by simp [Value.oneCell']) (by simp only [maxLen]; omega) (by omega) (by simp; omega) ?_); intro A2 c2 w4 hc2 hm2 hown4 hg4 hat4; have HO4 := Lib.hid hown4; have HG4 := Lib.hid hg4; have HC4 : Hid (B1 w4 w.heap.size (.slice A n c) (.int .i64 tk) (.int .i64 kn)) := (HC3.out.alloc _).grown hg4 (fun k hk => by have := (ho3.lt k hk).1; omega); have HK4 : Hid (Bk w4 w2.heap.size 33 #[.slice A1 n c1, .int .i64 tk, .int .i64 kn]) := (HK3.out.alloc _).grown hg4 (Ne.symm (own_ne ho3 (HK3.out.alloc _) (by decide))); clear hown4 hg4 hat4 q0 q1 q2 z0 z1 z2 f0 f1 f2 e0 e1 e2 r0 r1 r2 r3 y0 y1 y2 y3 hs o0 o1 o2 x0 x1 x2 hx; obtain ⟨⟨q0, q1, q2, z0, z1, z2⟩, ⟨f0, f1, f2, e0, e1, e2⟩, ⟨r0, r1, r2, r3, y0, y1, y2, y3⟩, hs⟩ := HC4.out.out; obtain ⟨o0, o1, o2, x0, x1, x2, hx⟩ := HK4.out.three)
  obtain ⟨W5, hW5⟩ : ∃ W5, W5 = w4.setCell ⟨w2.heap.size, 0, none⟩ (.slice A2 (n + 1) c2) := ⟨_, rfl⟩
  have HC5 : Hid (B1 W5 w.heap.size (.slice A n c) (.int .i64 tk) (.int .i64 kn)) := by
    rw [hW5]
    exact ⟨HC4.out.1.far (p := ⟨w2.heap.size, 0, none⟩) (by simp; omega) _, HC4.out.2.1.far (p := ⟨w2.heap.size, 0, none⟩) (by simp; omega) _, HC4.out.2.2.far (p := ⟨w2.heap.size, 0, none⟩) (by simp; omega) _⟩
  have HK5 : Hid (Bk W5 w2.heap.size 33 #[.slice A2 (n + 1) c2, .int .i64 tk, .int .i64 kn]) := by rw [hW5]; exact HK4.out.set 0 _
  have HO5 : Hid (W5.ownsRow w1.heap.size 9 1 (.slice A2 (n + 1) c2) (n + 1) ((ss ++ [m]).map Value.string)) := by
    rw [hW5]
    refine own_setCell (g := w2.heap.size) ?_ HK4.out (by decide) (by rfl) _
    simpa using HO4.out
  have HB5 : Hid (Below w.heap.size w W5) := by
    rw [hW5]
    refine Below.setCell ?_ (by first | (simp; done) | (simp; omega)) _
    exact ((HB3.out.alloc (by omega) _).grown HG4.out (by simp; omega) (fun k hk => by have := (ho3.lt k hk).1; omega))
  have hz5 : w2.heap.size < W5.heap.size := HK5.out.lt
  rw [← hW5]
  clear hW5 q0 q1 q2 z0 z1 z2 f0 f1 f2 e0 e1 e2 r0 r1 r2 r3 y0 y1 y2 y3 hs o0 o1 o2 x0 x1 x2 hx
  obtain ⟨⟨q0, q1, q2, z0, z1, z2⟩, ⟨f0, f1, f2, e0, e1, e2⟩, ⟨r0, r1, r2, r3, y0, y1, y2, y3⟩, hs⟩ := HC5.out.out
  obtain ⟨o0, o1, o2, x0, x1, x2, hx⟩ := HK5.out.three
  have ne1 : ¬ w.heap.size = w.heap.size + 1 + 1 := by omega
  have ne2 : ¬ w.heap.size + 1 + 1 = w.heap.size := by omega
  go_region
  go_wp2
  have hlen : (ss ++ [m]).length = n + 1 := by have := HLN.out; simp [this]
  refine bodyPost_ret (v := .tuple #[sideVal (.slice A2 (n + 1) c2) ⟨ss ++ [m], tk, kn⟩, (Fr.mk 1 ((n : Int) + 1) tk m).val, .int .i64 0]) (by simp [results, Try.results45, go_sem, sideVal, Fr.val, f0, f1, f2, r0, r1, r2, r3]) rfl ⟨A2, c2, by dsimp only; rw [hlen], by dsimp only; rw [hlen]; exact hc2, hm2, ?_, ?_⟩
  · dsimp only
    rw [hlen]
    refine own_mono (base := w1.heap.size) ?_ (by omega)
    refine World.ownsRow.drew ?_
    repeat (refine ownsRow_setCell_below ?_ (by first | (simp; omega) | (simp; done)) _)
    exact HO5.out
  · refine Below.drew ?_
    repeat (refine Below.setCell ?_ (by first | (simp; done) | (simp; omega)) _)
    exact HB5.out

set_option maxRecDepth 100000 in
set_option maxHeartbeats 1000000 in
theorem rsend_bad (hn : n ≤ maxLen) (hr : Rd w w.heap.size 1 A n (ss.map Value.string)) (hg : goodB ⟨ss, tk, kn⟩ = false) :
    Calls Try.prog 45 #[sideVal (.slice A n c) ⟨ss, tk, kn⟩, .string m] w (SendOut w ⟨⟨[], 0, 0⟩, zeroFr, 1⟩) := by
  obtain ⟨W, hW⟩ : ∃ W, W = ((w.alloc (.cells #[.slice A n c, .int .i64 tk, .int .i64 kn] 33)).alloc (.cells #[.slice none 0 0, .int .i64 0, .int .i64 0] 33)).alloc (.cells #[.int .i64 0, .int .i64 0, .int .i64 0, .string noBytes] 44) := ⟨_, rfl⟩
  have hrW : Rd W W.heap.size 1 A n (ss.map Value.string) := by rw [hW]; exact (((hr.alloc (Nat.le_refl _) _).alloc (by simp) _).alloc (by simp; omega) _).mono (by simp; omega)
  have hB : B1 W w.heap.size (.slice A n c) (.int .i64 tk) (.int .i64 kn) := by rw [hW]; exact B1.new _ _ _ _
  have hz : W.heap.size = w.heap.size + 1 + 1 + 1 := by rw [hW]; simp
  have hbl : Below w.heap.size w W := by rw [hW]; exact (((Below.refl _ w).alloc (Nat.le_refl _) _).alloc (by simp) _).alloc (by simp; omega) _
  have HRW := Lib.hid hrW
  have HB := Lib.hid hB
  have HZ := Lib.hid hz
  have HL := Lib.hid hbl
  have HG := Lib.hid hg
  have HW := Lib.hid hW
  clear hB hz hbl hg hW hr hrW
  unfold sideVal
  go_enter Try.func45, Try.ntmps45
  go_wp2_with fail
  have hW := HW.out
  unfold noBytes at hW
  rw [← hW]
  clear hW
  refine (rgood_any A n c ⟨ss, tk, kn⟩ W hn HRW.out).mono ?_
  rintro e w1 ⟨rfl, hb1⟩
  have HB1 := Lib.hid hb1
  have HR1 : Hid (Rd w1 w1.heap.size 1 A n (ss.map Value.string)) := (HRW.out.below hb1).mono hb1.size
  have HC1 : Hid (B1 w1 w.heap.size (.slice A n c) (.int .i64 tk) (.int .i64 kn)) := HB.out.below hb1 (by have := HZ.out; omega)
  clear hb1
  obtain ⟨⟨q0, q1, q2, z0, z1, z2⟩, ⟨f0, f1, f2, e0, e1, e2⟩, ⟨r0, r1, r2, r3, y0, y1, y2, y3⟩, hs⟩ := HC1.out.out
  rw [HG.out]
  go_wp2
  refine bodyPost_ret (v := .tuple #[sideVal (.slice none 0 0) ⟨[], 0, 0⟩, zeroFr.val, .int .i64 1]) (by simp [results, Try.results45, go_sem, sideVal, f0, f1, f2, r0, r1, r2, r3, noBytes, zeroFr, Fr.val]) rfl ⟨none, 0, rfl, Nat.le_refl _, Nat.zero_le _, World.ownsRow_nil _ _ _ _, ?_⟩
  repeat (refine Below.setCell ?_ (by first | (simp; done) | (simp; omega)) _)
  exact HL.out.trans (HB1.out.mono (by have := HZ.out; omega))

end

theorem rsend_any (A : Option Addr) (n c : Nat) (s : Sd) (m : ByteArray) (w : World) (hn : n ≤ maxLen) (hr : Rd w w.heap.size 1 A n (s.sent.map Value.string)) :
    Calls Try.prog 45 #[sideVal (.slice A n c) s, .string m] w (SendOut w (sendS s m)) := by
  have hln : s.sent.length = n := by simpa using hr.1
  obtain ⟨ss, tk, kn⟩ := s
  dsimp only at hln hr
  by_cases hg : goodB ⟨ss, tk, kn⟩ = true
  case neg =>
    have hg' : goodB ⟨ss, tk, kn⟩ = false := by simpa using hg
    rw [show sendS ⟨ss, tk, kn⟩ m = ⟨⟨[], 0, 0⟩, zeroFr, 1⟩ by simp [sendS, hg']]
    exact rsend_bad A n c ss tk kn m w hn hr hg'
  by_cases hf : fitsB m = true
  case neg =>
    have hf' : fitsB m = false := by simpa using hf
    rw [show sendS ⟨ss, tk, kn⟩ m = ⟨⟨[], 0, 0⟩, zeroFr, 11⟩ by simp [sendS, hg, hf']]
    exact rsend_form A n c ss tk kn m w hn hr hg (by unfold fitsB at hf'; simp at hf'; omega)
  have hl := (good_parts hg).1
  dsimp only at hl
  by_cases h : n = 256
  · rw [show sendS ⟨ss, tk, kn⟩ m = ⟨⟨[], 0, 0⟩, zeroFr, 40⟩ by simp [sendS, hg, hf, hln, h]]
    exact rsend_room A n c ss tk kn m w hn hr hg (by unfold fitsB at hf; simp at hf; omega) (by unfold fitsB at hf; simp at hf; omega) (by omega)
  · rw [show sendS ⟨ss, tk, kn⟩ m = ⟨⟨ss ++ [m], tk, kn⟩, ⟨1, (n : Int) + 1, tk, m⟩, 0⟩ by simp [sendS, hg, hf, hln, h]]
    exact rsend_ok A n c ss tk kn m w hn hr hg hln (by unfold fitsB at hf; simp at hf; omega) (by unfold fitsB at hf; simp at hf; omega) (by omega)

end Go.Proofs.Ytnbndhmdfheikaa

