/- bulwarklaw08.SessStays: for every end, frame and message the call returns true, and all three read afterwards as they read before. No condition. -/
import Derived.Test.YtkklghdmnkdofaaG1
import Derived.Test.YtkklghdmnkdofaaG2
import Derived.Test.YtkklghdmnkdofaaG3
import Derived.Test.YtkklghdmnkdofaaG4
namespace Go.Proofs.Ytkklghdmnkdofaa
open Go.ChangeShapes Go.WideShapes Go.ChangeAt Go.RowKit

set_option maxRecDepth 100000 in
set_option maxHeartbeats 1000000 in
theorem stays_bad (A : Option Addr) (n c : Nat) (s : Sd) (f : Fr) (msg : ByteArray) (w : World) (hnm : n ≤ maxLen) (hr : Rd w w.heap.size 1 A n (s.sent.map Value.string)) (hgb : goodB s = false) :
    Calls Try.prog 6 #[sideVal (.slice A n c) s, f.val, .string msg] w fun e w' => e = .returned (.bool true) ∧ Below w.heap.size w w' := by
  obtain ⟨W, hW⟩ : ∃ W, W = (w.alloc (.cells #[.slice A n c, .int .i64 s.taken, .int .i64 s.known] 24)).alloc (.cells #[.int .i64 f.kind, .int .i64 f.num, .int .i64 f.taken, .string f.body] 26) := ⟨_, rfl⟩
  have hB0 : Bk W w.heap.size 24 #[.slice A n c, .int .i64 s.taken, .int .i64 s.known] := by rw [hW]; exact (Bk.new w _ _).alloc _
  have hbl : Below w.heap.size w W := by rw [hW]; exact ((Below.refl _ w).alloc (Nat.le_refl _) _).alloc (by simp) _
  have HGB := Lib.hid hgb
  have HRw := Lib.hid hr
  clear hgb hr
  unfold sideVal Fr.val
  go_enter Try.func6, Try.ntmps6
  go_wp2_with fail
  rw [← hW]
  clear hW
  refine (wakes_any W).mono ?_
  rintro e w1 ⟨rfl, hb1⟩
  have HBa1 : Hid (Bk w1 w.heap.size 24 #[.slice A n c, .int .i64 s.taken, .int .i64 s.known]) := hB0.below hb1 hB0.lt
  have HL1 : Hid (Below w.heap.size w w1) := hbl.trans (hb1.mono hbl.size)
  clear hb1 hB0 hbl
  obtain ⟨q0, q1, q2, z0, z1, z2, hg⟩ := HBa1.out.three
  go_wp2_with fail
  refine (good_any A n c s w1 hnm ((HRw.out.below HL1.out).mono HL1.out.size)).mono ?_
  rintro e w2 ⟨rfl, hb2⟩
  clear q0 q1 q2 z0 z1 z2 hg
  rw [HGB.out]
  have HL2 : Hid (Below w.heap.size w w2) := HL1.out.trans (hb2.mono HL1.out.size)
  clear hb2
  go_wp2
  go_ret
  exact ⟨rfl, HL2.out⟩

theorem stays_walk (A : Option Addr) (n c : Nat) (s : Sd) (f : Fr) (msg : ByteArray) (w : World) (hnm : n ≤ maxLen) (hr : Rd w w.heap.size 1 A n (s.sent.map Value.string)) :
    Calls Try.prog 6 #[sideVal (.slice A n c) s, f.val, .string msg] w fun e w' => e = .returned (.bool true) ∧ Below w.heap.size w w' := by
  cases hgb : goodB s
  · exact stays_bad A n c s f msg w hnm hr hgb
  · obtain ⟨⟨ss, tk, kn⟩, x, er, h1⟩ : ∃ s1 x er, sendS s msg = ⟨s1, x, er⟩ := ⟨_, _, _, rfl⟩
    obtain ⟨⟨s5, tk5, kn5⟩, m5, l, er5, h5⟩ : ∃ s5 m5 l er5, takeS s f = ⟨s5, m5, l, er5⟩ := ⟨_, _, _, _, rfl⟩
    by_cases e1 : er = 0
    · by_cases e5 : er5 = 0
      · exact stays_tt A n c s f msg w hnm hr hgb ss tk kn er x h1 s5 tk5 kn5 er5 m5 l h5 e1 e5
      · exact stays_tf A n c s f msg w hnm hr hgb ss tk kn er x h1 s5 tk5 kn5 er5 m5 l h5 e1 e5
    · by_cases e5 : er5 = 0
      · exact stays_ft A n c s f msg w hnm hr hgb ss tk kn er x h1 s5 tk5 kn5 er5 m5 l h5 e1 e5
      · exact stays_ff A n c s f msg w hnm hr hgb ss tk kn er x h1 s5 tk5 kn5 er5 m5 l h5 e1 e5

set_option maxRecDepth 100000 in
theorem stays_lifted (os : Os) (started : os.Started) (H : Type) (enc : TypeId × Value → H) :
    ReturnsInHanded {} Try.checked os 6 .any (Rows.sessStaysSpec.pre6 enc Try.prog Try.f6 Rows.sessStaysRow.domain false) (Rows.sessStaysSpec.post enc Try.prog Try.f6 false true false false) := by
  refine returnsInHanded_of_change (C := Try.checked) own started (by kernel_rfl) Try.func6
    (ChangeSpec.witness6 (enc := enc) (C := Try.checked) false ⟨#[], #[.agg #[.slice none 0 0, .int .i64 0, .int .i64 0], .agg #[.int .i64 0, .int .i64 0, .int .i64 0, .string ⟨#[]⟩], .string ⟨#[]⟩], []⟩ 8 (by kernel_rfl) (by kernel_rfl) (by kernel_rfl) (by kernel_rfl)) ?_
  intro W base args ds gs before hval0 hW hcnd _
  have hval : ∀ (j : Nat) t v, Try.f6.params[j]? = some t → args[j]? = some v → Value.okWide Try.prog W .any base t v := hval0
  have hW' := hW
  obtain ⟨p, q, hA0, hV, rfl, hfz, hnd⟩ := hW
  have hA : DataW.TrodAll enc Try.prog W 0 (fun _ => true) true Try.f6.params.toList args.toList ds p := hA0
  rw [Try.params6] at hA hval
  obtain ⟨v0, vs0, d0, ds0, p0, q0, hargs, rfl, rfl, h0, r0⟩ := trodAll_cons hA
  obtain ⟨v1, vs1, d1, ds1, p1, q1, rfl, rfl, rfl, h1, r1⟩ := trodAll_cons r0
  obtain ⟨v2, vs2, d2, ds2, p2, q2, rfl, rfl, rfl, h2, r2⟩ := trodAll_cons r1
  obtain ⟨rfl, rfl, rfl⟩ := trodAll_nil r2
  obtain rfl : args = #[v0, v1, v2] := by cases args; simp_all
  obtain ⟨A, n, c, s, rfl, _, hn, hr⟩ := open_side (hval 0 24 v0 rfl rfl) h0
  obtain ⟨f, rfl⟩ := open_frame (hval 1 26 v1 rfl rfl) h1
  obtain ⟨m, rfl⟩ := msg_open (hval 2 9 v2 rfl rfl) h2
  refine (stays_walk A n c s f m W hn hr).mono fun e W' ⟨he, hb⟩ => ?_
  exact ⟨_, he, law_post laidOut Try.underlying4 hW' rfl (by rw [Try.params6]; intro t ht; simp at ht; rcases ht with rfl | rfl | rfl <;> exact ⟨by kernel_rfl, of_decide_eq_true (by kernel_rfl)⟩) rfl rfl hb⟩

theorem stays_holds : Rows.SessStaysSaid :=
  OpenClaim.holds_of_wide 6 Try.f6 rfl rfl rfl rfl rfl rfl rfl ⟨rfl, rfl, rfl, rfl, rfl⟩ rfl rfl rfl rfl rfl (by kernel_rfl) Try.func6 (by kernel_rfl)
    (of_decide_eq_true (by kernel_rfl)) (by unfold Func.isWrapper; first | (rw [if_pos (by decide +kernel)]; kernel_rfl) | (rw [if_neg (by decide +kernel)]; exact ⟨rfl, rfl⟩))
    (fun os started H enc _ => stays_lifted os started H enc)
#print axioms stays_holds

end Go.Proofs.Ytkklghdmnkdofaa
