/- bulwarklaw08.SessTakes: for every end and every frame the call returns true, and both read afterwards as they read before. No condition. -/
import Derived.Test.YtkklghdmnkdofaaL0
namespace Go.Proofs.Ytkklghdmnkdofaa
open Go.ChangeShapes Go.WideShapes Go.ChangeAt Go.RowKit

set_option maxHeartbeats 2000000 in
theorem takes_walk (A : Option Addr) (n c : Nat) (s : Sd) (f : Fr) (w : World) (hnm : n ≤ maxLen) (hr : Rd w w.heap.size 1 A n (s.sent.map Value.string)) :
    Calls Try.prog 3 #[sideVal (.slice A n c) s, f.val] w fun e w' => e = .returned (.bool true) ∧ Below w.heap.size w w' := by
  obtain ⟨W, hW⟩ : ∃ W, W = (w.alloc (.cells #[.slice A n c, .int .i64 s.taken, .int .i64 s.known] 24)).alloc (.cells #[.int .i64 f.kind, .int .i64 f.num, .int .i64 f.taken, .string f.body] 26) := ⟨_, rfl⟩
  have hrW : Rd W W.heap.size 1 A n (s.sent.map Value.string) := by rw [hW]; exact ((hr.alloc (Nat.le_refl _) _).alloc (by simp) _).mono (by simp; omega)
  have hB0 : Bk W w.heap.size 24 #[.slice A n c, .int .i64 s.taken, .int .i64 s.known] := by rw [hW]; exact (Bk.new w _ _).alloc _
  have hB1 : Bk W (w.heap.size + 1) 26 #[.int .i64 f.kind, .int .i64 f.num, .int .i64 f.taken, .string f.body] := by
    rw [hW]; have := Bk.new (w.alloc (.cells #[.slice A n c, .int .i64 s.taken, .int .i64 s.known] 24)) 26 #[.int .i64 f.kind, .int .i64 f.num, .int .i64 f.taken, .string f.body]; simpa using this
  have hz : W.heap.size = w.heap.size + 1 + 1 := by rw [hW]; simp
  have hbl : Below w.heap.size w W := by rw [hW]; exact ((Below.refl _ w).alloc (Nat.le_refl _) _).alloc (by simp) _
  obtain ⟨r, hR⟩ : ∃ r, r = takeS s f := ⟨_, rfl⟩
  have ht1 := fun (W' : World) (h : Rd W' W'.heap.size 1 A n (s.sent.map Value.string)) => take_any A n c s f W' hnm h
  have ht2 := fun (W' : World) (h : Rd W' W'.heap.size 1 A n (s.sent.map Value.string)) => rtake_any A n c s f W' hnm h
  rw [← hR] at ht1 ht2
  clear hR
  obtain ⟨⟨ss, tk, kn⟩, m, l, er⟩ := r
  have HT1 := Lib.hid ht1
  have HT2 := Lib.hid ht2
  have HB0 := Lib.hid hB0
  have HB1 := Lib.hid hB1
  have HZ := Lib.hid hz
  have HL := Lib.hid hbl
  have HRW := Lib.hid hrW
  clear hB0 hB1 hz hbl hr hrW ht1 ht2
  unfold sideVal Fr.val
  go_enter Try.func3, Try.ntmps3
  go_wp2_with fail
  rw [← hW]
  clear hW
  refine (wakes_any W).mono ?_
  rintro e w1 ⟨rfl, hb1⟩
  have HR1 : Hid (Rd w1 w1.heap.size 1 A n (s.sent.map Value.string)) := (HRW.out.below hb1).mono hb1.size
  have HBa : Hid (Bk w1 w.heap.size 24 #[.slice A n c, .int .i64 s.taken, .int .i64 s.known]) := HB0.out.below hb1 (by have := HZ.out; omega)
  have HBb : Hid (Bk w1 (w.heap.size + 1) 26 #[.int .i64 f.kind, .int .i64 f.num, .int .i64 f.taken, .string f.body]) := HB1.out.below hb1 (by have := HZ.out; omega)
  have HL1 : Hid (Below w.heap.size w w1) := HL.out.trans (hb1.mono (by have := HZ.out; omega))
  clear hb1
  obtain ⟨q0, q1, q2, z0, z1, z2, hg⟩ := HBa.out.three
  obtain ⟨f0, f1, f2, f3, e0, e1, e2, e3, hg1⟩ := HBb.out.four
  go_wp2_with fail
  refine (HT1.out w1 HR1.out).mono ?_
  rintro e w2 ⟨A1, c1, X1, d1, rfl, hc1, hm1, hd1, he1, ho1, hx1, hb2⟩
  clear q0 q1 q2 z0 z1 z2 f0 f1 f2 f3 e0 e1 e2 e3 hg hg1
  dsimp only at hc1 hd1 ho1 hx1 ⊢
  unfold sideVal
  dsimp only
  have hs2 : w1.heap.size ≤ w2.heap.size := hb2.size
  obtain ⟨W2, hW2⟩ : ∃ W2, W2 = w2.alloc (.cells #[.slice A1 ss.length c1, .int .i64 tk, .int .i64 kn] 24) := ⟨_, rfl⟩
  have HRa : Hid (Rd W2 W2.heap.size 1 A1 ss.length (ss.map Value.string)) := by rw [hW2]; exact ((Rd.of_own ho1).alloc (Nat.le_refl _) _).mono (by simp)
  have HRx : Hid (Rd W2 W2.heap.size 4 X1 l.length (frs l)) := by rw [hW2]; exact ((Rd.of_own hx1).alloc (Nat.le_refl _) _).mono (by simp)
  have HR2 : Hid (Rd W2 W2.heap.size 1 A n (s.sent.map Value.string)) := by rw [hW2]; exact (((HR1.out.below hb2).mono hs2).alloc (Nat.le_refl _) _).mono (by simp)
  have HBa2 : Hid (Bk W2 w.heap.size 24 #[.slice A n c, .int .i64 s.taken, .int .i64 s.known]) := by rw [hW2]; exact (HBa.out.below hb2 HBa.out.lt).alloc _
  have HBb2 : Hid (Bk W2 (w.heap.size + 1) 26 #[.int .i64 f.kind, .int .i64 f.num, .int .i64 f.taken, .string f.body]) := by rw [hW2]; exact (HBb.out.below hb2 HBb.out.lt).alloc _
  have HBc2 : Hid (Bk W2 w2.heap.size 24 #[.slice A1 ss.length c1, .int .i64 tk, .int .i64 kn]) := by rw [hW2]; exact Bk.new _ _ _
  have HL2 : Hid (Below w.heap.size w W2) := by rw [hW2]; exact (HL1.out.trans (hb2.mono HL1.out.size)).alloc (Nat.le_trans HL1.out.size hs2) _
  have hx2 : w.heap.size + 1 < w2.heap.size := by have := HBb.out.lt; omega
  have hx3 : w.heap.size < w2.heap.size := by omega
  have HM1 := Lib.hid hm1
  have HB2 := Lib.hid hb2
  have HBa3 : Hid (Bk w2 w.heap.size 24 #[.slice A n c, .int .i64 s.taken, .int .i64 s.known]) := HBa.out.below hb2 HBa.out.lt
  have HBb3 : Hid (Bk w2 (w.heap.size + 1) 26 #[.int .i64 f.kind, .int .i64 f.num, .int .i64 f.taken, .string f.body]) := HBb.out.below hb2 HBb.out.lt
  have hc1' := Lib.hid hc1
  have hd1' := Lib.hid hd1
  have he1' := Lib.hid he1
  clear hb2 ho1 hx1 hm1 hc1 hd1 he1
  obtain ⟨q0, q1, q2, z0, z1, z2, hg⟩ := HBa3.out.three
  obtain ⟨f0, f1, f2, f3, e0, e1, e2, e3, hg1⟩ := HBb3.out.four
  go_wp2_with fail
  rw [← hW2]
  clear hW2 q0 q1 q2 z0 z1 z2 f0 f1 f2 f3 e0 e1 e2 e3 hg hg1
  refine (HT2.out W2 HR2.out).mono ?_
  rintro e w3 ⟨A3, c3, X3, d3, rfl, hc3, hm3, hd3, he3, ho3, hx3', hb3⟩
  dsimp only at hc3 hd3 ho3 hx3' ⊢
  unfold sideVal
  dsimp only
  have hs3 : W2.heap.size ≤ w3.heap.size := hb3.size
  obtain ⟨W4, hW4⟩ : ∃ W4, W4 = w3.alloc (.cells #[.slice A3 ss.length c3, .int .i64 tk, .int .i64 kn] 24) := ⟨_, rfl⟩
  have HSa : Hid (Rd W4 W4.heap.size 1 A1 ss.length (ss.map Value.string)) := by rw [hW4]; exact (((HRa.out.below hb3).mono hs3).alloc (Nat.le_refl _) _).mono (by simp)
  have HSx : Hid (Rd W4 W4.heap.size 4 X1 l.length (frs l)) := by rw [hW4]; exact (((HRx.out.below hb3).mono hs3).alloc (Nat.le_refl _) _).mono (by simp)
  have HSb : Hid (Rd W4 W4.heap.size 1 A3 ss.length (ss.map Value.string)) := by rw [hW4]; exact ((Rd.of_own ho3).alloc (Nat.le_refl _) _).mono (by simp)
  have HSy : Hid (Rd W4 W4.heap.size 4 X3 l.length (frs l)) := by rw [hW4]; exact ((Rd.of_own hx3').alloc (Nat.le_refl _) _).mono (by simp)
  have HBb4 : Hid (Bk W4 (w.heap.size + 1) 26 #[.int .i64 f.kind, .int .i64 f.num, .int .i64 f.taken, .string f.body]) := by rw [hW4]; exact (HBb2.out.below hb3 HBb2.out.lt).alloc _
  have HBc4 : Hid (Bk W4 w2.heap.size 24 #[.slice A1 ss.length c1, .int .i64 tk, .int .i64 kn]) := by rw [hW4]; exact (HBc2.out.below hb3 HBc2.out.lt).alloc _
  have HBd4 : Hid (Bk W4 w3.heap.size 24 #[.slice A3 ss.length c3, .int .i64 tk, .int .i64 kn]) := by rw [hW4]; exact Bk.new _ _ _
  have HL4 : Hid (Below w.heap.size w W4) := by rw [hW4]; exact (HL2.out.trans (hb3.mono HL2.out.size)).alloc (Nat.le_trans HL2.out.size hs3) _
  have HM3 := Lib.hid hm3
  clear hb3 ho3 hx3' hm3 hc3 hd3 he3
  go_wp2_with fail
  rw [← hW4]
  clear hW4
  have HS : Hid (∀ w', Below W4.heap.size W4 w' → (fun w' => Below W4.heap.size W4 w' ∧ w'.cell? ⟨w2.heap.size, 0, none⟩ = some (.slice A1 ss.length c1) ∧ w'.cell? ⟨w2.heap.size, 1, none⟩ = some (.int .i64 tk) ∧ w'.cell? ⟨w2.heap.size, 2, none⟩ = some (.int .i64 kn) ∧ w'.cell? ⟨w3.heap.size, 0, none⟩ = some (.slice A3 ss.length c3) ∧ w'.cell? ⟨w3.heap.size, 1, none⟩ = some (.int .i64 tk) ∧ w'.cell? ⟨w3.heap.size, 2, none⟩ = some (.int .i64 kn) ∧ w'.cell? ⟨w.heap.size + 1, 0, none⟩ = some (.int .i64 f.kind) ∧ w'.cell? ⟨w.heap.size + 1, 1, none⟩ = some (.int .i64 f.num) ∧ w'.cell? ⟨w.heap.size + 1, 2, none⟩ = some (.int .i64 f.taken) ∧ w'.cell? ⟨w.heap.size + 1, 3, none⟩ = some (.string f.body)) w') := fun w' h => by
    have a := (HBc4.out.below h HBc4.out.lt).three
    have b := (HBd4.out.below h HBd4.out.lt).three
    have d := (HBb4.out.below h HBb4.out.lt).four
    exact ⟨h, a.1, a.2.1, a.2.2.1, b.1, b.2.1, b.2.2.1, d.1, d.2.1, d.2.2.1, d.2.2.2.1⟩
  have HN : Hid (ss.length ≤ maxLen) := Nat.le_trans hc1'.out HM1.out
  have HNl : Hid (l.length ≤ maxLen) := Nat.le_trans hd1'.out he1'.out
  go_region_held3 (fun w' => Below W4.heap.size W4 w' ∧ w'.cell? ⟨w2.heap.size, 0, none⟩ = some (.slice A1 ss.length c1) ∧ w'.cell? ⟨w2.heap.size, 1, none⟩ = some (.int .i64 tk) ∧ w'.cell? ⟨w2.heap.size, 2, none⟩ = some (.int .i64 kn) ∧ w'.cell? ⟨w3.heap.size, 0, none⟩ = some (.slice A3 ss.length c3) ∧ w'.cell? ⟨w3.heap.size, 1, none⟩ = some (.int .i64 tk) ∧ w'.cell? ⟨w3.heap.size, 2, none⟩ = some (.int .i64 kn) ∧ w'.cell? ⟨w.heap.size + 1, 0, none⟩ = some (.int .i64 f.kind) ∧ w'.cell? ⟨w.heap.size + 1, 1, none⟩ = some (.int .i64 f.num) ∧ w'.cell? ⟨w.heap.size + 1, 2, none⟩ = some (.int .i64 f.taken) ∧ w'.cell? ⟨w.heap.size + 1, 3, none⟩ = some (.string f.body))
    (first
      | assumption
      | exact HS.out _ (Below.refl _ _).drew)
    (first
      | (go_at_call 12; obtain ⟨hB, -⟩ := ‹Below W4.heap.size W4 _ ∧ _›; refine (same_any A1 A3 c1 c3 ⟨ss, tk, kn⟩ _ HN.out ((HSa.out.below hB).mono hB.size) ((HSb.out.below hB).mono hB.size)).mono ?_; rintro e w5 ⟨rfl, hb5⟩; have h5 := HS.out _ (hB.trans (hb5.mono hB.size)); clear hb5 hB)
      | (go_at_call 13; obtain ⟨hB, -⟩ := ‹Below W4.heap.size W4 _ ∧ _›; refine (sameFrames_any X1 X3 l.length d1 d3 l _ rfl HNl.out ((HSx.out.below hB).mono hB.size) ((HSy.out.below hB).mono hB.size)).mono ?_; rintro e w6 ⟨rfl, q6, rfl⟩; have h6 := HS.out _ (below_drewN hB q6); clear hB)
      | (go_at_call 14; obtain ⟨hB, -⟩ := ‹Below W4.heap.size W4 _ ∧ _›; refine (valid_any f _).mono ?_; rintro e w7 ⟨rfl, hb7⟩; have h7 := HS.out _ (hB.trans (hb7.mono hB.size)); clear hb7 hB)
      | (go_at_call 15; obtain ⟨hB, -⟩ := ‹Below W4.heap.size W4 _ ∧ _›; refine (rvalid_any f _).mono ?_; rintro e w8 ⟨rfl, hb8⟩; have h8 := HS.out _ (hB.trans (hb8.mono hB.size)); clear hb8 hB))
  obtain ⟨hB8, -⟩ := h8
  have HB8 := Lib.hid hB8
  clear hB8
  go_wp2
  go_ret
  exact ⟨by simp, HL4.out.trans (HB8.out.mono HL4.out.size)⟩

set_option maxRecDepth 100000 in
theorem takes_lifted (os : Os) (started : os.Started) (H : Type) (enc : TypeId × Value → H) :
    ReturnsInHanded {} Try.checked os 3 .any (Rows.sessTakesSpec.pre6 enc Try.prog Try.f3 Rows.sessTakesRow.domain false) (Rows.sessTakesSpec.post enc Try.prog Try.f3 false true false false) := by
  refine returnsInHanded_of_change (C := Try.checked) own started (by kernel_rfl) Try.func3
    (ChangeSpec.witness6 (enc := enc) (C := Try.checked) false ⟨#[], #[.agg #[.slice none 0 0, .int .i64 0, .int .i64 0], .agg #[.int .i64 0, .int .i64 0, .int .i64 0, .string ⟨#[]⟩]], []⟩ 8 (by kernel_rfl) (by kernel_rfl) (by kernel_rfl) (by kernel_rfl)) ?_
  intro W base args ds gs before hval0 hW hcnd _
  have hval : ∀ (j : Nat) t v, Try.f3.params[j]? = some t → args[j]? = some v → Value.okWide Try.prog W .any base t v := hval0
  have hW' := hW
  obtain ⟨p, q, hA0, hV, rfl, hfz, hnd⟩ := hW
  have hA : DataW.TrodAll enc Try.prog W 0 (fun _ => true) true Try.f3.params.toList args.toList ds p := hA0
  rw [Try.params3] at hA hval
  obtain ⟨v0, vs0, d0, ds0, p0, q0, hargs, rfl, rfl, h0, r0⟩ := trodAll_cons hA
  obtain ⟨v1, vs1, d1, ds1, p1, q1, rfl, rfl, rfl, h1, r1⟩ := trodAll_cons r0
  obtain ⟨rfl, rfl, rfl⟩ := trodAll_nil r1
  obtain rfl : args = #[v0, v1] := by cases args; simp_all
  obtain ⟨A, n, c, s, rfl, _, hn, hr⟩ := open_side (hval 0 24 v0 rfl rfl) h0
  obtain ⟨f, rfl⟩ := open_frame (hval 1 26 v1 rfl rfl) h1
  refine (takes_walk A n c s f W hn hr).mono fun e W' ⟨he, hb⟩ => ?_
  exact ⟨_, he, law_post laidOut Try.underlying4 hW' rfl (by rw [Try.params3]; intro t ht; simp at ht; rcases ht with rfl | rfl <;> exact ⟨by kernel_rfl, of_decide_eq_true (by kernel_rfl)⟩) rfl rfl hb⟩

theorem takes_holds : Rows.SessTakesSaid :=
  OpenClaim.holds_of_wide 3 Try.f3 rfl rfl rfl rfl rfl rfl rfl ⟨rfl, rfl, rfl, rfl, rfl⟩ rfl rfl rfl rfl rfl (by kernel_rfl) Try.func3 (by kernel_rfl)
    (of_decide_eq_true (by kernel_rfl)) (by unfold Func.isWrapper; first | (rw [if_pos (by decide +kernel)]; kernel_rfl) | (rw [if_neg (by decide +kernel)]; exact ⟨rfl, rfl⟩))
    (fun os started H enc _ => takes_lifted os started H enc)
#print axioms takes_holds

end Go.Proofs.Ytkklghdmnkdofaa
