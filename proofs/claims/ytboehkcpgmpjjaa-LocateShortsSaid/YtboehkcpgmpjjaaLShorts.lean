/- bulwarklaw14.LocateShorts: for every three numbers the call returns true. No condition. -/
import Derived.Test.YtboehkcpgmpjjaaD1
namespace Go.Proofs.Ytboehkcpgmpjjaa
open Go.ChangeShapes Go.WideShapes Go.ChangeAt Go.RowKit Go.Joins Go.Deep

theorem shorts_walk (p s q : Int) (w : World) : Calls Try.prog 4 #[.int .i64 p, .int .i64 s, .int .i64 q] w fun e w' => e = .returned (.bool true) ∧ Below w.heap.size w w' := by
  go_enter Try.func4, Try.ntmps4
  go_wp2_with fail
  refine (wakes_any w).mono ?_
  rintro e w1 ⟨rfl, hb1⟩
  have HB := Lib.hid hb1
  clear hb1
  by_cases hin : (-1000000000 ≤ p ∧ p ≤ 1000000000) ∧ (0 ≤ s ∧ s ≤ 1099511627776) ∧ -1000000000 ≤ q
  · obtain ⟨hp, hs, hq⟩ := hin
    obtain ⟨r, hr⟩ : ∃ r, r = if 0 ≤ q then 0 else if s - q - p < 0 then 0 else s - q - p := ⟨_, rfl⟩
    have h1 := fun W => short_any p s q W hp hs hq
    have h2 := fun W => rshort_any p s q W hp hs hq
    rw [← hr] at h1 h2
    have H1 := Lib.hid h1
    have H2 := Lib.hid h2
    clear hr h1 h2
    have i1 : ¬ (p < -1000000000) := by omega
    have i2 : ¬ (1000000000 < p) := by omega
    have i3 : ¬ (s < 0) := by omega
    have i4 : ¬ (1099511627776 < s) := by omega
    have i5 : ¬ (q < -1000000000) := by omega
    clear hp hs hq
    go_wp2_with fail
    refine (H1.out w1).mono ?_
    rintro e w' ⟨rfl, rfl⟩
    go_wp2_with fail
    refine (H2.out _).mono ?_
    rintro e w'' ⟨rfl, rfl⟩
    go_wp2
    go_ret
    exact ⟨rfl, HB.out⟩
  · by_cases i1 : p < -1000000000
    · go_wp2
      go_ret
      exact ⟨rfl, HB.out⟩
    by_cases i2 : 1000000000 < p
    · go_wp2
      go_ret
      exact ⟨rfl, HB.out⟩
    by_cases i3 : s < 0
    · go_wp2
      go_ret
      exact ⟨rfl, HB.out⟩
    by_cases i4 : 1099511627776 < s
    · go_wp2
      go_ret
      exact ⟨rfl, HB.out⟩
    have i5 : q < -1000000000 := by omega
    go_wp2
    go_ret
    exact ⟨rfl, HB.out⟩

set_option maxRecDepth 100000 in
theorem shorts_lifted (os : Os) (started : os.Started) (H : Type) (enc : TypeId × Value → H) :
    ReturnsInHanded {} Try.checked os 4 .any (Rows.locateShortsSpec.pre6 enc Try.prog Try.f4 Rows.locateShortsRow.domain false) (Rows.locateShortsSpec.post enc Try.prog Try.f4 false true false false) := by
  refine returnsInHanded_of_change (C := Try.checked) own started (by kernel_rfl) Try.func4
    (ChangeSpec.witness6 (enc := enc) (C := Try.checked) false ⟨#[], #[.int .i64 0, .int .i64 0, .int .i64 0], []⟩ 4 (by kernel_rfl) (by kernel_rfl) (by kernel_rfl) (by kernel_rfl)) ?_
  intro W base args ds gs before hval0 hW hcnd _
  have hval : ∀ (j : Nat) t v, Try.f4.params[j]? = some t → args[j]? = some v → Value.okWide Try.prog W .any base t v := hval0
  have hW' := hW
  obtain ⟨p, q, hA0, hV, rfl, hfz, hnd⟩ := hW
  have hA : DataW.TrodAll enc Try.prog W 0 (fun _ => true) true Try.f4.params.toList args.toList ds p := hA0
  rw [Try.params4] at hA hval
  obtain ⟨v0, vs0, d0, ds0, p0, q0, hargs, rfl, rfl, h0, r0⟩ := trodAll_cons hA
  obtain ⟨v1, vs1, d1, ds1, p1, q1, rfl, rfl, rfl, h1, r1⟩ := trodAll_cons r0
  obtain ⟨v2, vs2, d2, ds2, p2, q2, rfl, rfl, rfl, h2, r2⟩ := trodAll_cons r1
  obtain ⟨rfl, rfl, rfl⟩ := trodAll_nil r2
  obtain rfl : args = #[v0, v1, v2] := by cases args; simp_all
  obtain ⟨x0, rfl, _, _, _⟩ := open_int Try.underlying3 (hval 0 3 v0 rfl rfl) h0
  obtain ⟨x1, rfl, _, _, _⟩ := open_int Try.underlying3 (hval 1 3 v1 rfl rfl) h1
  obtain ⟨x2, rfl, _, _, _⟩ := open_int Try.underlying3 (hval 2 3 v2 rfl rfl) h2
  refine (shorts_walk x0 x1 x2 W).mono fun e W' ⟨he, hb⟩ => ?_
  exact ⟨_, he, law_post laidOut Try.underlying4 hW' rfl (by rw [Try.params4]; intro t ht; simp at ht; subst ht; exact ⟨by kernel_rfl, of_decide_eq_true (by kernel_rfl)⟩) rfl rfl hb⟩

theorem shorts_holds : Rows.LocateShortsSaid :=
  OpenClaim.holds_of_wide 4 Try.f4 rfl rfl rfl rfl rfl rfl rfl ⟨rfl, rfl, rfl, rfl, rfl⟩ rfl rfl rfl rfl rfl (by kernel_rfl) Try.func4 (by kernel_rfl)
    (of_decide_eq_true (by kernel_rfl)) (by unfold Func.isWrapper; first | (rw [if_pos (by decide +kernel)]; kernel_rfl) | (rw [if_neg (by decide +kernel)]; exact ⟨rfl, rfl⟩))
    (fun os started H enc _ => shorts_lifted os started H enc)
#print axioms shorts_holds

end Go.Proofs.Ytboehkcpgmpjjaa
