/- bulwarklaw08.SessSends: for every end and every message the call returns true, and both read afterwards as they read before. No condition. By gen_sends.py. -/
import Derived.Test.YtkklghdmnkdofaaS2
import Derived.Test.YtkklghdmnkdofaaL0
namespace Go.Proofs.Ytkklghdmnkdofaa
open Go.ChangeShapes Go.WideShapes Go.ChangeAt Go.RowKit
open Go.ChangeMaps (open_string)

theorem Bk.second (w : World) (o : Obj) (t : TypeId) (cs : Array Value) : Bk ((w.alloc o).alloc (.cells cs t)) (w.heap.size + 1) t cs := by
  have := Bk.new (w.alloc o) t cs
  simpa using this

section
variable (A : Option Addr) (n c : Nat) (s : Sd) (w : World) (hn : n ≤ maxLen) (hr : Rd w w.heap.size 1 A n (s.sent.map Value.string))
include hn hr
theorem tick_yes (h : goodB s = true) : Calls Try.prog 20 #[sideVal (.slice A n c) s] w fun e w' => e = .returned (.tuple #[.agg #[.int .i64 3, .int .i64 (n : Int), .int .i64 s.taken, .string noBytes], .int .i64 0]) ∧ Below w.heap.size w w' :=
  (tick_any A n c s w hn hr).mono fun e w' ⟨he, hb⟩ => ⟨by
    have hl : s.sent.length = n := by simpa using hr.1
    rw [he, if_pos h, if_pos h, tickF, hl]; rfl, hb⟩
theorem tick_no (h : goodB s = false) : Calls Try.prog 20 #[sideVal (.slice A n c) s] w fun e w' => e = .returned (.tuple #[.agg #[.int .i64 0, .int .i64 0, .int .i64 0, .string noBytes], .int .i64 1]) ∧ Below w.heap.size w w' :=
  (tick_any A n c s w hn hr).mono fun e w' ⟨he, hb⟩ => ⟨by rw [he, h]; rfl, hb⟩
theorem left_yes (h : goodB s = true) : Calls Try.prog 21 #[sideVal (.slice A n c) s] w fun e w' => e = .returned (.int .i64 ((n : Int) - s.known)) ∧ Below w.heap.size w w' :=
  (left_any A n c s w hn hr).mono fun e w' ⟨he, hb⟩ => ⟨by
    have hl : s.sent.length = n := by simpa using hr.1
    rw [he, leftN, if_pos h, hl], hb⟩
theorem left_no (h : goodB s = false) : Calls Try.prog 21 #[sideVal (.slice A n c) s] w fun e w' => e = .returned (.int .i64 0) ∧ Below w.heap.size w w' :=
  (left_any A n c s w hn hr).mono fun e w' ⟨he, hb⟩ => ⟨by rw [he, leftN, h]; rfl, hb⟩
end

set_option maxRecDepth 100000 in
set_option maxHeartbeats 4000000 in
theorem sends_walk (A : Option Addr) (n c : Nat) (s : Sd) (msg : ByteArray) (w : World) (hnm : n ≤ maxLen) (hr : Rd w w.heap.size 1 A n (s.sent.map Value.string)) :
    Calls Try.prog 5 #[sideVal (.slice A n c) s, .string msg] w fun e w' => e = .returned (.bool true) ∧ Below w.heap.size w w' := by
  have hln : s.sent.length = n := by simpa using hr.1
  obtain ⟨W, hW⟩ : ∃ W, W = w.alloc (.cells #[.slice A n c, .int .i64 s.taken, .int .i64 s.known] 24) := ⟨_, rfl⟩
  have hrW : Rd W W.heap.size 1 A n (s.sent.map Value.string) := by rw [hW]; exact (hr.alloc (Nat.le_refl _) _).mono (by simp)
  have hB0 : Bk W w.heap.size 24 #[.slice A n c, .int .i64 s.taken, .int .i64 s.known] := by rw [hW]; exact Bk.new w _ _
  have hz : W.heap.size = w.heap.size + 1 := by rw [hW]; simp
  have hbl : Below w.heap.size w W := by rw [hW]; exact (Below.refl _ w).alloc (Nat.le_refl _) _
  obtain ⟨r, hR⟩ : ∃ r, r = sendS s msg := ⟨_, rfl⟩
  have ht1 := fun (W' : World) (h : Rd W' W'.heap.size 1 A n (s.sent.map Value.string)) => send_any A n c s msg W' hnm h
  have ht2 := fun (W' : World) (h : Rd W' W'.heap.size 1 A n (s.sent.map Value.string)) => rsend_any A n c s msg W' hnm h
  rw [← hR] at ht1 ht2
  clear hR
  obtain ⟨⟨ss, tk, kn⟩, f, er⟩ := r
  have HT1 := Lib.hid ht1
  have HT2 := Lib.hid ht2
  have HB0 := Lib.hid hB0
  have HZ := Lib.hid hz
  have HL := Lib.hid hbl
  have HRW := Lib.hid hrW
  have HLN := Lib.hid hln
  have HRw := Lib.hid hr
  clear hB0 hz hbl hr hrW ht1 ht2 hln
  unfold sideVal
  go_enter Try.func5, Try.ntmps5
  go_wp2_with fail
  rw [← hW]
  clear hW
  refine (wakes_any W).mono ?_
  rintro e w1 ⟨rfl, hb1⟩
  have HR1 : Hid (Rd w1 w1.heap.size 1 A n (s.sent.map Value.string)) := (HRW.out.below hb1).mono hb1.size
  have HBa : Hid (Bk w1 w.heap.size 24 #[.slice A n c, .int .i64 s.taken, .int .i64 s.known]) := HB0.out.below hb1 (by have := HZ.out; omega)
  have HL1 : Hid (Below w.heap.size w w1) := HL.out.trans (hb1.mono (by have := HZ.out; omega))
  clear hb1
  obtain ⟨q0, q1, q2, z0, z1, z2, hg⟩ := HBa.out.three
  go_wp2_with fail
  refine (HT1.out w1 HR1.out).mono ?_
  rintro e w2 ⟨A1, c1, rfl, hc1, hm1, ho1, hb2⟩
  clear q0 q1 q2 z0 z1 z2 hg
  dsimp only at hc1 ho1 ⊢
  unfold sideVal Fr.val
  dsimp only
  have hs2 : w1.heap.size ≤ w2.heap.size := hb2.size
  obtain ⟨W2, hW2⟩ : ∃ W2, W2 = (w2.alloc (.cells #[.slice A1 ss.length c1, .int .i64 tk, .int .i64 kn] 24)).alloc (.cells #[.int .i64 f.kind, .int .i64 f.num, .int .i64 f.taken, .string f.body] 26) := ⟨_, rfl⟩
  have HRa : Hid (Rd W2 W2.heap.size 1 A1 ss.length (ss.map Value.string)) := by rw [hW2]; exact (((Rd.of_own ho1).alloc (Nat.le_refl _) _).alloc (by simp) _).mono (by simp; omega)
  have HR2 : Hid (Rd W2 W2.heap.size 1 A n (s.sent.map Value.string)) := by rw [hW2]; exact ((((HR1.out.below hb2).mono hs2).alloc (Nat.le_refl _) _).alloc (by simp) _).mono (by simp; omega)
  have HBa2 : Hid (Bk W2 w.heap.size 24 #[.slice A n c, .int .i64 s.taken, .int .i64 s.known]) := by rw [hW2]; exact ((HBa.out.below hb2 HBa.out.lt).alloc _).alloc _
  have HBc2 : Hid (Bk W2 w2.heap.size 24 #[.slice A1 ss.length c1, .int .i64 tk, .int .i64 kn]) := by rw [hW2]; exact (Bk.new _ _ _).alloc _
  have HBd2 : Hid (Bk W2 (w2.heap.size + 1) 26 #[.int .i64 f.kind, .int .i64 f.num, .int .i64 f.taken, .string f.body]) := by
    rw [hW2]; exact Bk.second _ _ _ _
  have HL2 : Hid (Below w.heap.size w W2) := by rw [hW2]; exact ((HL1.out.trans (hb2.mono HL1.out.size)).alloc (Nat.le_trans HL1.out.size hs2) _).alloc (by have := HL1.out.size; simp; omega) _
  have hx3 : w.heap.size < w2.heap.size := by have := HBa.out.lt; omega
  have HBa3 : Hid (Bk w2 w.heap.size 24 #[.slice A n c, .int .i64 s.taken, .int .i64 s.known]) := HBa.out.below hb2 HBa.out.lt
  have HM1 := Lib.hid hm1
  have HC1 := Lib.hid hc1
  clear hb2 ho1 hm1 hc1
  obtain ⟨q0, q1, q2, z0, z1, z2, hg⟩ := HBa3.out.three
  go_wp2_with fail
  rw [← hW2]
  clear hW2 q0 q1 q2 z0 z1 z2 hg
  refine (HT2.out W2 HR2.out).mono ?_
  rintro e w3 ⟨A3, c3, rfl, hc3, hm3, ho3, hb3⟩
  dsimp only at hc3 ho3 ⊢
  unfold sideVal Fr.val
  dsimp only
  have hs3 : W2.heap.size ≤ w3.heap.size := hb3.size
  obtain ⟨W4, hW4⟩ : ∃ W4, W4 = (w3.alloc (.cells #[.slice A3 ss.length c3, .int .i64 tk, .int .i64 kn] 24)).alloc (.cells #[.int .i64 f.kind, .int .i64 f.num, .int .i64 f.taken, .string f.body] 26) := ⟨_, rfl⟩
  have HSa : Hid (Rd W4 W4.heap.size 1 A1 ss.length (ss.map Value.string)) := by rw [hW4]; exact ((((HRa.out.below hb3).mono hs3).alloc (Nat.le_refl _) _).alloc (by simp) _).mono (by simp; omega)
  have HSb : Hid (Rd W4 W4.heap.size 1 A3 ss.length (ss.map Value.string)) := by rw [hW4]; exact (((Rd.of_own ho3).alloc (Nat.le_refl _) _).alloc (by simp) _).mono (by simp; omega)
  have HSr : Hid (Rd W4 W4.heap.size 1 A n (s.sent.map Value.string)) := by rw [hW4]; exact ((((HR2.out.below hb3).mono hs3).alloc (Nat.le_refl _) _).alloc (by simp) _).mono (by simp; omega)
  have HBa4 : Hid (Bk W4 w.heap.size 24 #[.slice A n c, .int .i64 s.taken, .int .i64 s.known]) := by rw [hW4]; exact ((HBa2.out.below hb3 HBa2.out.lt).alloc _).alloc _
  have HBc4 : Hid (Bk W4 w2.heap.size 24 #[.slice A1 ss.length c1, .int .i64 tk, .int .i64 kn]) := by rw [hW4]; exact ((HBc2.out.below hb3 HBc2.out.lt).alloc _).alloc _
  have HBd4 : Hid (Bk W4 (w2.heap.size + 1) 26 #[.int .i64 f.kind, .int .i64 f.num, .int .i64 f.taken, .string f.body]) := by rw [hW4]; exact ((HBd2.out.below hb3 HBd2.out.lt).alloc _).alloc _
  have HBe4 : Hid (Bk W4 w3.heap.size 24 #[.slice A3 ss.length c3, .int .i64 tk, .int .i64 kn]) := by rw [hW4]; exact (Bk.new _ _ _).alloc _
  have HBf4 : Hid (Bk W4 (w3.heap.size + 1) 26 #[.int .i64 f.kind, .int .i64 f.num, .int .i64 f.taken, .string f.body]) := by
    rw [hW4]; exact Bk.second _ _ _ _
  have HL4 : Hid (Below w.heap.size w W4) := by rw [hW4]; exact ((HL2.out.trans (hb3.mono HL2.out.size)).alloc (Nat.le_trans HL2.out.size hs3) _).alloc (by have := HL2.out.size; simp; omega) _
  have HS : Hid (∀ w', Below W4.heap.size W4 w' → (fun w' => Below W4.heap.size W4 w' ∧ w'.cell? ⟨w2.heap.size, 0, none⟩ = some (.slice A1 ss.length c1) ∧ w'.cell? ⟨w2.heap.size, 1, none⟩ = some (.int .i64 tk) ∧ w'.cell? ⟨w2.heap.size, 2, none⟩ = some (.int .i64 kn) ∧ w'.cell? ⟨w2.heap.size + 1, 0, none⟩ = some (.int .i64 f.kind) ∧ w'.cell? ⟨w2.heap.size + 1, 1, none⟩ = some (.int .i64 f.num) ∧ w'.cell? ⟨w2.heap.size + 1, 2, none⟩ = some (.int .i64 f.taken) ∧ w'.cell? ⟨w2.heap.size + 1, 3, none⟩ = some (.string f.body) ∧ w'.cell? ⟨w3.heap.size, 0, none⟩ = some (.slice A3 ss.length c3) ∧ w'.cell? ⟨w3.heap.size, 1, none⟩ = some (.int .i64 tk) ∧ w'.cell? ⟨w3.heap.size, 2, none⟩ = some (.int .i64 kn) ∧ w'.cell? ⟨w3.heap.size + 1, 0, none⟩ = some (.int .i64 f.kind) ∧ w'.cell? ⟨w3.heap.size + 1, 1, none⟩ = some (.int .i64 f.num) ∧ w'.cell? ⟨w3.heap.size + 1, 2, none⟩ = some (.int .i64 f.taken) ∧ w'.cell? ⟨w3.heap.size + 1, 3, none⟩ = some (.string f.body) ∧ w'.cell? ⟨w.heap.size, 0, none⟩ = some (.slice A n c) ∧ w'.cell? ⟨w.heap.size, 1, none⟩ = some (.int .i64 s.taken) ∧ w'.cell? ⟨w.heap.size, 2, none⟩ = some (.int .i64 s.known)) w') := fun w' h => by
    have a := (HBc4.out.below h HBc4.out.lt).three
    have b := (HBd4.out.below h HBd4.out.lt).four
    have d := (HBe4.out.below h HBe4.out.lt).three
    have g := (HBf4.out.below h HBf4.out.lt).four
    have k := (HBa4.out.below h HBa4.out.lt).three
    exact ⟨h, a.1, a.2.1, a.2.2.1, b.1, b.2.1, b.2.2.1, b.2.2.2.1, d.1, d.2.1, d.2.2.1, g.1, g.2.1, g.2.2.1, g.2.2.2.1, k.1, k.2.1, k.2.2.1⟩
  have HN : Hid (ss.length ≤ maxLen) := Nat.le_trans HC1.out HM1.out
  clear hb3 ho3 hm3 hc3
  go_wp2_with fail
  rw [← hW4]
  clear hW4
  go_region_held3 (fun w' => Below W4.heap.size W4 w' ∧ w'.cell? ⟨w2.heap.size, 0, none⟩ = some (.slice A1 ss.length c1) ∧ w'.cell? ⟨w2.heap.size, 1, none⟩ = some (.int .i64 tk) ∧ w'.cell? ⟨w2.heap.size, 2, none⟩ = some (.int .i64 kn) ∧ w'.cell? ⟨w2.heap.size + 1, 0, none⟩ = some (.int .i64 f.kind) ∧ w'.cell? ⟨w2.heap.size + 1, 1, none⟩ = some (.int .i64 f.num) ∧ w'.cell? ⟨w2.heap.size + 1, 2, none⟩ = some (.int .i64 f.taken) ∧ w'.cell? ⟨w2.heap.size + 1, 3, none⟩ = some (.string f.body) ∧ w'.cell? ⟨w3.heap.size, 0, none⟩ = some (.slice A3 ss.length c3) ∧ w'.cell? ⟨w3.heap.size, 1, none⟩ = some (.int .i64 tk) ∧ w'.cell? ⟨w3.heap.size, 2, none⟩ = some (.int .i64 kn) ∧ w'.cell? ⟨w3.heap.size + 1, 0, none⟩ = some (.int .i64 f.kind) ∧ w'.cell? ⟨w3.heap.size + 1, 1, none⟩ = some (.int .i64 f.num) ∧ w'.cell? ⟨w3.heap.size + 1, 2, none⟩ = some (.int .i64 f.taken) ∧ w'.cell? ⟨w3.heap.size + 1, 3, none⟩ = some (.string f.body) ∧ w'.cell? ⟨w.heap.size, 0, none⟩ = some (.slice A n c) ∧ w'.cell? ⟨w.heap.size, 1, none⟩ = some (.int .i64 s.taken) ∧ w'.cell? ⟨w.heap.size, 2, none⟩ = some (.int .i64 s.known))
    (first
      | assumption
      | exact HS.out _ (Below.refl _ _).drew)
    (first
      | (go_at_call 12; obtain ⟨hB, -⟩ := ‹Below W4.heap.size W4 _ ∧ _›; refine (same_any A1 A3 c1 c3 ⟨ss, tk, kn⟩ _ HN.out ((HSa.out.below hB).mono hB.size) ((HSb.out.below hB).mono hB.size)).mono ?_; rintro e w5 ⟨rfl, hb5⟩; have h5 := HS.out _ (hB.trans (hb5.mono hB.size)); clear hb5 hB)
      | (go_at_call 18; obtain ⟨hB, -⟩ := ‹Below W4.heap.size W4 _ ∧ _›; refine (good_any A n c s _ hnm ((HSr.out.below hB).mono hB.size)).mono ?_; rintro e w6 ⟨rfl, hb6⟩; have h6 := HS.out _ (hB.trans (hb6.mono hB.size)); clear hb6 hB)
      | (go_at_call 19; obtain ⟨hB, -⟩ := ‹Below W4.heap.size W4 _ ∧ _›; refine (rgood_any A n c s _ hnm ((HSr.out.below hB).mono hB.size)).mono ?_; rintro e w7 ⟨rfl, hb7⟩; have h7 := HS.out _ (hB.trans (hb7.mono hB.size)); clear hb7 hB))
  obtain ⟨hB7, -⟩ := h7
  clear h5 h6
  have HB7 := Lib.hid hB7
  have HR7 : Hid (Rd w7 w7.heap.size 1 A n (s.sent.map Value.string)) := (HSr.out.below hB7).mono hB7.size
  have HBa7 : Hid (Bk w7 w.heap.size 24 #[.slice A n c, .int .i64 s.taken, .int .i64 s.known]) := HBa4.out.below hB7 HBa4.out.lt
  have HBd7 : Hid (Bk w7 (w2.heap.size + 1) 26 #[.int .i64 f.kind, .int .i64 f.num, .int .i64 f.taken, .string f.body]) := HBd4.out.below hB7 HBd4.out.lt
  clear hB7
  obtain ⟨q0, q1, q2, z0, z1, z2, hg⟩ := HBa7.out.three
  cases hgb : goodB s
  · have HGB := Lib.hid hgb
    clear hgb
    go_wp2_with fail
    refine (tick_no A n c s w7 hnm HR7.out HGB.out).mono ?_
    rintro e w8 ⟨rfl, hb8⟩
    clear q0 q1 q2 z0 z1 z2 hg
    have HB8 : Hid (Below w.heap.size w w8) := (HL4.out.trans (HB7.out.mono HL4.out.size)).trans (hb8.mono (Nat.le_trans HL4.out.size HB7.out.size))
    have HR8 : Hid (Rd w8 w8.heap.size 1 A n (s.sent.map Value.string)) := (HR7.out.below hb8).mono hb8.size
    have HBa8 : Hid (Bk w8 w.heap.size 24 #[.slice A n c, .int .i64 s.taken, .int .i64 s.known]) := HBa7.out.below hb8 HBa7.out.lt
    have HBd8 : Hid (Bk w8 (w2.heap.size + 1) 26 #[.int .i64 f.kind, .int .i64 f.num, .int .i64 f.taken, .string f.body]) := HBd7.out.below hb8 HBd7.out.lt
    clear hb8
    obtain ⟨q0, q1, q2, z0, z1, z2, hg⟩ := HBa8.out.three
    obtain ⟨f0, f1, f2, f3, e0, e1, e2, e3, hg1⟩ := HBd8.out.four
    go_wp2_with fail
    obtain ⟨W9, hW9⟩ : ∃ W9, W9 = ((((w8.setCell ⟨w2.heap.size + 1, 0, none⟩ (.int .i64 0)).setCell ⟨w2.heap.size + 1, 1, none⟩ (.int .i64 0)).setCell ⟨w2.heap.size + 1, 2, none⟩ (.int .i64 0)).setCell ⟨w2.heap.size + 1, 3, none⟩ (.string noBytes)) := ⟨_, rfl⟩
    have HBa9 : Hid (Bk W9 w.heap.size 24 #[.slice A n c, .int .i64 s.taken, .int .i64 s.known]) := by
      rw [hW9]; exact (((HBa8.out.far (p := ⟨w2.heap.size + 1, 0, none⟩) (by simp; omega) _).far (p := ⟨w2.heap.size + 1, 1, none⟩) (by simp; omega) _).far (p := ⟨w2.heap.size + 1, 2, none⟩) (by simp; omega) _).far (p := ⟨w2.heap.size + 1, 3, none⟩) (by simp; omega) _
    have HBd9 : Hid (Bk W9 (w2.heap.size + 1) 26 #[.int .i64 0, .int .i64 0, .int .i64 0, .string noBytes]) := by
      rw [hW9]; exact (((HBd8.out.set 0 _).set 1 _).set 2 _).set 3 _
    have HR9 : Hid (Rd W9 W9.heap.size 1 A n (s.sent.map Value.string)) := by
      rw [hW9]
      have h0 : Rd w8 (w.heap.size) 1 A n (s.sent.map Value.string) := HRw.out.below HB8.out
      exact ((((h0.setCell (p := ⟨w2.heap.size + 1, 0, none⟩) (by simp; omega) _).setCell (p := ⟨w2.heap.size + 1, 1, none⟩) (by simp; omega) _).setCell (p := ⟨w2.heap.size + 1, 2, none⟩) (by simp; omega) _).setCell (p := ⟨w2.heap.size + 1, 3, none⟩) (by simp; omega) _).mono (by have := HB8.out.size; simp; omega)
    have HL9 : Hid (Below w.heap.size w W9) := by
      rw [hW9]; exact (((HB8.out.setCell (p := ⟨w2.heap.size + 1, 0, none⟩) (by simp; omega) _).setCell (p := ⟨w2.heap.size + 1, 1, none⟩) (by simp; omega) _).setCell (p := ⟨w2.heap.size + 1, 2, none⟩) (by simp; omega) _).setCell (p := ⟨w2.heap.size + 1, 3, none⟩) (by simp; omega) _
    first | rw [← hW9] | (unfold noBytes at hW9; rw [← hW9])
    clear hW9 q0 q1 q2 z0 z1 z2 hg f0 f1 f2 f3 e0 e1 e2 e3 hg1 HR8
    refine (rgood_any A n c s W9 hnm HR9.out).mono ?_
    rintro e W10 ⟨rfl, hb10⟩
    rw [HGB.out]
    have HR10 : Hid (Rd W10 W10.heap.size 1 A n (s.sent.map Value.string)) := (HR9.out.below hb10).mono hb10.size
    have HBa10 : Hid (Bk W10 w.heap.size 24 #[.slice A n c, .int .i64 s.taken, .int .i64 s.known]) := HBa9.out.below hb10 HBa9.out.lt
    have HBd10 : Hid (Bk W10 (w2.heap.size + 1) 26 #[.int .i64 0, .int .i64 0, .int .i64 0, .string noBytes]) := HBd9.out.below hb10 HBd9.out.lt
    have HL10 : Hid (Below w.heap.size w W10) := HL9.out.trans (hb10.mono HL9.out.size)
    clear hb10
    obtain ⟨q0, q1, q2, z0, z1, z2, hg⟩ := HBa10.out.three
    obtain ⟨f0, f1, f2, f3, e0, e1, e2, e3, hg1⟩ := HBd10.out.four
    unfold noBytes at f3
    go_wp2_with fail
    refine (left_no A n c s W10 hnm HR10.out HGB.out).mono ?_
    rintro e w11 ⟨rfl, hb11⟩
    have HB11 := Lib.hid hb11
    clear hb11
    go_wp2
    go_ret
    exact ⟨rfl, HL10.out.trans (HB11.out.mono HL10.out.size)⟩
  · have HGB := Lib.hid hgb
    have hp := good_parts hgb
    have hk1 : s.known ≤ n := by have := HLN.out; omega
    have hk2 : 0 ≤ s.known := hp.2.1
    have hn2 : n ≤ 256 := by have := HLN.out; omega
    clear hgb hp
    go_wp2_with fail
    refine (tick_yes A n c s w7 hnm HR7.out HGB.out).mono ?_
    rintro e w8 ⟨rfl, hb8⟩
    clear q0 q1 q2 z0 z1 z2 hg
    have HB8 : Hid (Below w.heap.size w w8) := (HL4.out.trans (HB7.out.mono HL4.out.size)).trans (hb8.mono (Nat.le_trans HL4.out.size HB7.out.size))
    have HR8 : Hid (Rd w8 w8.heap.size 1 A n (s.sent.map Value.string)) := (HR7.out.below hb8).mono hb8.size
    have HBa8 : Hid (Bk w8 w.heap.size 24 #[.slice A n c, .int .i64 s.taken, .int .i64 s.known]) := HBa7.out.below hb8 HBa7.out.lt
    have HBd8 : Hid (Bk w8 (w2.heap.size + 1) 26 #[.int .i64 f.kind, .int .i64 f.num, .int .i64 f.taken, .string f.body]) := HBd7.out.below hb8 HBd7.out.lt
    clear hb8
    obtain ⟨q0, q1, q2, z0, z1, z2, hg⟩ := HBa8.out.three
    obtain ⟨f0, f1, f2, f3, e0, e1, e2, e3, hg1⟩ := HBd8.out.four
    go_wp2_with fail
    obtain ⟨W9, hW9⟩ : ∃ W9, W9 = ((((w8.setCell ⟨w2.heap.size + 1, 0, none⟩ (.int .i64 3)).setCell ⟨w2.heap.size + 1, 1, none⟩ (.int .i64 (n : Int))).setCell ⟨w2.heap.size + 1, 2, none⟩ (.int .i64 s.taken)).setCell ⟨w2.heap.size + 1, 3, none⟩ (.string noBytes)) := ⟨_, rfl⟩
    have HBa9 : Hid (Bk W9 w.heap.size 24 #[.slice A n c, .int .i64 s.taken, .int .i64 s.known]) := by
      rw [hW9]; exact (((HBa8.out.far (p := ⟨w2.heap.size + 1, 0, none⟩) (by simp; omega) _).far (p := ⟨w2.heap.size + 1, 1, none⟩) (by simp; omega) _).far (p := ⟨w2.heap.size + 1, 2, none⟩) (by simp; omega) _).far (p := ⟨w2.heap.size + 1, 3, none⟩) (by simp; omega) _
    have HBd9 : Hid (Bk W9 (w2.heap.size + 1) 26 #[.int .i64 3, .int .i64 (n : Int), .int .i64 s.taken, .string noBytes]) := by
      rw [hW9]; exact (((HBd8.out.set 0 _).set 1 _).set 2 _).set 3 _
    have HR9 : Hid (Rd W9 W9.heap.size 1 A n (s.sent.map Value.string)) := by
      rw [hW9]
      have h0 : Rd w8 (w.heap.size) 1 A n (s.sent.map Value.string) := HRw.out.below HB8.out
      exact ((((h0.setCell (p := ⟨w2.heap.size + 1, 0, none⟩) (by simp; omega) _).setCell (p := ⟨w2.heap.size + 1, 1, none⟩) (by simp; omega) _).setCell (p := ⟨w2.heap.size + 1, 2, none⟩) (by simp; omega) _).setCell (p := ⟨w2.heap.size + 1, 3, none⟩) (by simp; omega) _).mono (by have := HB8.out.size; simp; omega)
    have HL9 : Hid (Below w.heap.size w W9) := by
      rw [hW9]; exact (((HB8.out.setCell (p := ⟨w2.heap.size + 1, 0, none⟩) (by simp; omega) _).setCell (p := ⟨w2.heap.size + 1, 1, none⟩) (by simp; omega) _).setCell (p := ⟨w2.heap.size + 1, 2, none⟩) (by simp; omega) _).setCell (p := ⟨w2.heap.size + 1, 3, none⟩) (by simp; omega) _
    first | rw [← hW9] | (unfold noBytes at hW9; rw [← hW9])
    clear hW9 q0 q1 q2 z0 z1 z2 hg f0 f1 f2 f3 e0 e1 e2 e3 hg1 HR8
    refine (rgood_any A n c s W9 hnm HR9.out).mono ?_
    rintro e W10 ⟨rfl, hb10⟩
    rw [HGB.out]
    have HR10 : Hid (Rd W10 W10.heap.size 1 A n (s.sent.map Value.string)) := (HR9.out.below hb10).mono hb10.size
    have HBa10 : Hid (Bk W10 w.heap.size 24 #[.slice A n c, .int .i64 s.taken, .int .i64 s.known]) := HBa9.out.below hb10 HBa9.out.lt
    have HBd10 : Hid (Bk W10 (w2.heap.size + 1) 26 #[.int .i64 3, .int .i64 (n : Int), .int .i64 s.taken, .string noBytes]) := HBd9.out.below hb10 HBd9.out.lt
    have HL10 : Hid (Below w.heap.size w W10) := HL9.out.trans (hb10.mono HL9.out.size)
    clear hb10
    obtain ⟨q0, q1, q2, z0, z1, z2, hg⟩ := HBa10.out.three
    obtain ⟨f0, f1, f2, f3, e0, e1, e2, e3, hg1⟩ := HBd10.out.four
    unfold noBytes at f3
    go_wp2_with fail
    have HS10 : Hid (∀ w', Below W10.heap.size W10 w' → (fun w' => Below W10.heap.size W10 w' ∧ w'.cell? ⟨w2.heap.size + 1, 0, none⟩ = some (.int .i64 3) ∧ w'.cell? ⟨w2.heap.size + 1, 1, none⟩ = some (.int .i64 (n : Int)) ∧ w'.cell? ⟨w2.heap.size + 1, 2, none⟩ = some (.int .i64 s.taken) ∧ w'.cell? ⟨w2.heap.size + 1, 3, none⟩ = some (.string ⟨#[]⟩) ∧ w'.cell? ⟨w.heap.size, 0, none⟩ = some (.slice A n c) ∧ w'.cell? ⟨w.heap.size, 1, none⟩ = some (.int .i64 s.taken) ∧ w'.cell? ⟨w.heap.size, 2, none⟩ = some (.int .i64 s.known)) w') := fun w' h => by
      have b := (HBd10.out.below h HBd10.out.lt).four
      have k := (HBa10.out.below h HBa10.out.lt).three
      exact ⟨h, b.1, b.2.1, b.2.2.1, b.2.2.2.1, k.1, k.2.1, k.2.2.1⟩
    go_region_held3 (fun w' => Below W10.heap.size W10 w' ∧ w'.cell? ⟨w2.heap.size + 1, 0, none⟩ = some (.int .i64 3) ∧ w'.cell? ⟨w2.heap.size + 1, 1, none⟩ = some (.int .i64 (n : Int)) ∧ w'.cell? ⟨w2.heap.size + 1, 2, none⟩ = some (.int .i64 s.taken) ∧ w'.cell? ⟨w2.heap.size + 1, 3, none⟩ = some (.string ⟨#[]⟩) ∧ w'.cell? ⟨w.heap.size, 0, none⟩ = some (.slice A n c) ∧ w'.cell? ⟨w.heap.size, 1, none⟩ = some (.int .i64 s.taken) ∧ w'.cell? ⟨w.heap.size, 2, none⟩ = some (.int .i64 s.known))
      (first
        | assumption
        | exact HS10.out _ (Below.refl _ _).drew)
      (first
        | (go_at_call 21; obtain ⟨hB, -⟩ := ‹Below W10.heap.size W10 _ ∧ _›; refine (left_yes A n c s _ hnm ((HR10.out.below hB).mono hB.size) HGB.out).mono ?_; rintro e w11 ⟨rfl, hb11⟩; have h11 := HS10.out _ (hB.trans (hb11.mono hB.size)); clear hb11 hB))
    obtain ⟨hB11, -⟩ := h11
    have HB11 := Lib.hid hB11
    clear hB11
    go_wp2
    go_ret
    exact ⟨by have hw := IntWalk.i64_in ((n : Int) - s.known) (by omega); simp [hw], HL10.out.trans (HB11.out.mono HL10.out.size)⟩

theorem msg_open {H : Type} {enc : TypeId × Value → H} {W : World} {r : Reach} {b0 : Nat} {v : Value} {d : DataW H} {p : List MemPlace} (hv : Value.okWide Try.prog W r b0 9 v) (h : DataW.Trod enc Try.prog W 0 (fun _ => true) true 9 v d p) : ∃ m : ByteArray, v = .string m := by
  obtain ⟨m, rfl, _, _, _⟩ := open_string Try.underlying9 hv h
  exact ⟨m, rfl⟩

set_option maxRecDepth 100000 in
theorem sends_lifted (os : Os) (started : os.Started) (H : Type) (enc : TypeId × Value → H) :
    ReturnsInHanded {} Try.checked os 5 .any (Rows.sessSendsSpec.pre6 enc Try.prog Try.f5 Rows.sessSendsRow.domain false) (Rows.sessSendsSpec.post enc Try.prog Try.f5 false true false false) := by
  refine returnsInHanded_of_change (C := Try.checked) own started (by kernel_rfl) Try.func5
    (ChangeSpec.witness6 (enc := enc) (C := Try.checked) false ⟨#[], #[.agg #[.slice none 0 0, .int .i64 0, .int .i64 0], .string ⟨#[]⟩], []⟩ 8 (by kernel_rfl) (by kernel_rfl) (by kernel_rfl) (by kernel_rfl)) ?_
  intro W base args ds gs before hval0 hW hcnd _
  have hval : ∀ (j : Nat) t v, Try.f5.params[j]? = some t → args[j]? = some v → Value.okWide Try.prog W .any base t v := hval0
  have hW' := hW
  obtain ⟨p, q, hA0, hV, rfl, hfz, hnd⟩ := hW
  have hA : DataW.TrodAll enc Try.prog W 0 (fun _ => true) true Try.f5.params.toList args.toList ds p := hA0
  rw [Try.params5] at hA hval
  obtain ⟨v0, vs0, d0, ds0, p0, q0, hargs, rfl, rfl, h0, r0⟩ := trodAll_cons hA
  obtain ⟨v1, vs1, d1, ds1, p1, q1, rfl, rfl, rfl, h1, r1⟩ := trodAll_cons r0
  obtain ⟨rfl, rfl, rfl⟩ := trodAll_nil r1
  obtain rfl : args = #[v0, v1] := by cases args; simp_all
  obtain ⟨A, n, c, s, rfl, _, hn, hr⟩ := open_side (hval 0 24 v0 rfl rfl) h0
  obtain ⟨m, rfl⟩ := msg_open (hval 1 9 v1 rfl rfl) h1
  refine (sends_walk A n c s m W hn hr).mono fun e W' ⟨he, hb⟩ => ?_
  exact ⟨_, he, law_post laidOut Try.underlying4 hW' rfl (by rw [Try.params5]; intro t ht; simp at ht; rcases ht with rfl | rfl <;> exact ⟨by kernel_rfl, of_decide_eq_true (by kernel_rfl)⟩) rfl rfl hb⟩

theorem sends_holds : Rows.SessSendsSaid :=
  OpenClaim.holds_of_wide 5 Try.f5 rfl rfl rfl rfl rfl rfl rfl ⟨rfl, rfl, rfl, rfl, rfl⟩ rfl rfl rfl rfl rfl (by kernel_rfl) Try.func5 (by kernel_rfl)
    (of_decide_eq_true (by kernel_rfl)) (by unfold Func.isWrapper; first | (rw [if_pos (by decide +kernel)]; kernel_rfl) | (rw [if_neg (by decide +kernel)]; exact ⟨rfl, rfl⟩))
    (fun os started H enc _ => sends_lifted os started H enc)
#print axioms sends_holds

end Go.Proofs.Ytkklghdmnkdofaa

