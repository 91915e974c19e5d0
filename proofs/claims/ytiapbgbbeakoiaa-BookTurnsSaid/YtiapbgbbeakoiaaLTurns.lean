/- bulwarklaw13.BookTurns: for every list of orders, every order and every quantity the call returns true, and all reads afterwards as it read before. No condition. -/
import Derived.Test.YtiapbgbbeakoiaaOT
import Derived.Test.YtiapbgbbeakoiaaD2
namespace Go.Proofs.Ytiapbgbbeakoiaa
open Go.ChangeShapes Go.WideShapes Go.ChangeAt Go.RowKit Go.Joins Go.Deep

set_option maxRecDepth 100000 in
theorem turns_lifted (os : Os) (started : os.Started) (H : Type) (enc : TypeId × Value → H) :
    ReturnsInHanded {} Try.checked os 7 .any (Rows.bookTurnsSpec.pre6 enc Try.prog Try.f7 Rows.bookTurnsRow.domain false) (Rows.bookTurnsSpec.post enc Try.prog Try.f7 false true false false) := by
  refine returnsInHanded_of_change_sized (C := Try.checked) own started (by kernel_rfl) Try.func7
    (ChangeSpec.witness6 (enc := enc) (C := Try.checked) false ⟨#[], #[.slice none 0 0, .agg #[.int .i64 0, .int .i64 0, .int .i64 0, .int .i64 0, .int .i64 0], .int .i64 0], []⟩ 7 (by kernel_rfl) (by kernel_rfl) (by kernel_rfl) (by kernel_rfl)) ?_
  intro W base args ds gs before hval0 hW hcnd hsz0 _
  have hval : ∀ (j : Nat) t v, Try.f7.params[j]? = some t → args[j]? = some v → Value.okWide Try.prog W .any base t v := hval0
  have hsz : (DataW.weightsEach Try.prog (Try.f7.params.toList ++ Rows.bookTurnsSpec.plain.varTypes Try.prog) (ds ++ gs)).all (· ≤ reachBytes) = true := hsz0
  have hW' := hW
  obtain ⟨p, q, hA0, hV, rfl, hfz, hnd⟩ := hW
  have hA : DataW.TrodAll enc Try.prog W 0 (fun _ => true) true Try.f7.params.toList args.toList ds p := hA0
  rw [Try.params7] at hA hval hsz
  obtain ⟨v0, vs0, d0, ds0, p0, q0, hargs, rfl, rfl, h0, r0⟩ := trodAll_cons hA
  obtain ⟨v1, vs1, d1, ds1, p1, q1, rfl, rfl, rfl, h1, r1⟩ := trodAll_cons r0
  obtain ⟨v2, vs2, d2, ds2, p2, q2, rfl, rfl, rfl, h2, r2⟩ := trodAll_cons r1
  obtain ⟨rfl, rfl, rfl⟩ := trodAll_nil r2
  obtain rfl : args = #[v0, v1, v2] := by cases args; simp_all
  have hc0 : ∀ {A : Option Addr} {n' c' : Nat}, v0 = .slice A n' c' → n' ≤ c' := fun he => O.cap_locs (hval 0 32 v0 rfl rfl) h0 he
  obtain ⟨B, m, d, l, rfl, hm, hrl⟩ := O.open_locs (hval 0 32 v0 rfl rfl) h0
  obtain ⟨x, rfl⟩ := O.open_one (hval 1 38 v1 rfl rfl) h1
  obtain ⟨q, rfl, _, _, hwf⟩ := open_int Try.underlying3 (hval 2 3 v2 rfl rfl) h2
  have hmd := hc0 rfl
  have hq63 : q ≤ 9223372036854775807 := (show q ≤ IntKind.i64.max from of_decide_eq_true (Bool.and_eq_true_iff.1 hwf).2)
  refine (O.turns_walk B m d l x q W hm hmd hq63 hrl).mono fun e W' ⟨he, hb⟩ => ?_
  exact ⟨_, he, law_post laidOut Try.underlying4 hW' rfl (by rw [Try.params7]; intro t ht; simp at ht; rcases ht with rfl | rfl | rfl <;> exact ⟨by kernel_rfl, of_decide_eq_true (by kernel_rfl)⟩) rfl rfl hb⟩

theorem turns_holds : Rows.BookTurnsSaid :=
  OpenClaim.holds_of_wide 7 Try.f7 rfl rfl rfl rfl rfl rfl rfl ⟨rfl, rfl, rfl, rfl, rfl⟩ rfl rfl rfl rfl rfl (by kernel_rfl) Try.func7 (by kernel_rfl)
    (of_decide_eq_true (by kernel_rfl)) (by unfold Func.isWrapper; first | (rw [if_pos (by decide +kernel)]; kernel_rfl) | (rw [if_neg (by decide +kernel)]; exact ⟨rfl, rfl⟩))
    (fun os started H enc _ => turns_lifted os started H enc)
#print axioms turns_holds

end Go.Proofs.Ytiapbgbbeakoiaa
