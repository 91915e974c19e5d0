/- bulwarklaw24.LinkCalm: for every list of messages and every number the call returns true, and the list reads afterwards as it read before. No condition. -/
import Derived.Test.YtnbndhmdfheikaaLXw
import Derived.Test.YtnbndhmdfheikaaL0
namespace Go.Proofs.Ytnbndhmdfheikaa
open Go.ChangeShapes Go.WideShapes Go.ChangeAt Go.RowKit Go.Joins Go.Deep

theorem mask_one (x : Int) : bits BinOp.and IntKind.i64 x 1 = 0 ∨ bits BinOp.and IntKind.i64 x 1 = 1 := by
  have h : ∀ a : BitVec 64, (a &&& 1#64).toNat = 0 ∨ (a &&& 1#64).toNat = 1 := fun a => by
    rw [BitVec.toNat_and, show (1#64).toNat = 1 from rfl, Nat.and_one_is_mod]
    omega
  have e : bits BinOp.and IntKind.i64 x 1 = IntKind.i64.wrap (((BitVec.ofInt 64 x) &&& 1#64).toNat : Int) := rfl
  rw [e]
  rcases h (BitVec.ofInt 64 x) with h | h <;> rw [h]
  · exact .inl (IntWalk.i64_in _ (by omega))
  · exact .inr (IntWalk.i64_in _ (by omega))

set_option maxRecDepth 100000 in
theorem calm_lifted (os : Os) (started : os.Started) (H : Type) (enc : TypeId × Value → H) :
    ReturnsInHanded {} Try.checked os 4 .any (Rows.linkCalmSpec.pre6 enc Try.prog Try.f4 Rows.linkCalmRow.domain false) (Rows.linkCalmSpec.post enc Try.prog Try.f4 false true false false) := by
  refine returnsInHanded_of_change (C := Try.checked) own started (by kernel_rfl) Try.func4
    (ChangeSpec.witness6 (enc := enc) (C := Try.checked) false ⟨#[], #[.slice none 0 0, .int .i64 0], []⟩ 4 (by kernel_rfl) (by kernel_rfl) (by kernel_rfl) (by kernel_rfl)) ?_
  intro W base args ds gs before hval0 hW hcnd _
  have hval : ∀ (j : Nat) t v, Try.f4.params[j]? = some t → args[j]? = some v → Value.okWide Try.prog W .any base t v := hval0
  have hW' := hW
  obtain ⟨p, q, hA0, hV, rfl, hfz, hnd⟩ := hW
  have hA : DataW.TrodAll enc Try.prog W 0 (fun _ => true) true Try.f4.params.toList args.toList ds p := hA0
  rw [Try.params4] at hA hval
  obtain ⟨v0, vs0, d0, ds0, p0, q0, hargs, rfl, rfl, h0, r0⟩ := trodAll_cons hA
  obtain ⟨v1, vs1, d1, ds1, p1, q1, rfl, rfl, rfl, h1, r1⟩ := trodAll_cons r0
  obtain ⟨rfl, rfl, rfl⟩ := trodAll_nil r1
  obtain rfl : args = #[v0, v1] := by cases args; simp_all
  obtain ⟨A, n, c, l, rfl, hn, hr⟩ := open_list (hval 0 30 v0 rfl rfl) h0
  obtain ⟨tk, rfl, _, _, _⟩ := open_int Try.underlying3 (hval 1 3 v1 rfl rfl) h1
  have key : Calls Try.prog 4 #[.slice A n c, .int .i64 tk] W fun e w' => e = .returned (.bool true) ∧ Below W.heap.size W w' := by
    rcases mask_one tk with h | h
    · exact calm_walk_0 A n c l tk W hn hr h
    · exact calm_walk_1 A n c l tk W hn hr h
  refine key.mono fun e W' ⟨he, hb⟩ => ?_
  exact ⟨_, he, law_post laidOut Try.underlying4 hW' rfl (by rw [Try.params4]; intro t ht; simp at ht; rcases ht with rfl | rfl <;> exact ⟨by kernel_rfl, of_decide_eq_true (by kernel_rfl)⟩) rfl rfl hb⟩

theorem calm_holds : Rows.LinkCalmSaid :=
  OpenClaim.holds_of_wide 4 Try.f4 rfl rfl rfl rfl rfl rfl rfl ⟨rfl, rfl, rfl, rfl, rfl⟩ rfl rfl rfl rfl rfl (by kernel_rfl) Try.func4 (by kernel_rfl)
    (of_decide_eq_true (by kernel_rfl)) (by unfold Func.isWrapper; first | (rw [if_pos (by decide +kernel)]; kernel_rfl) | (rw [if_neg (by decide +kernel)]; exact ⟨rfl, rfl⟩))
    (fun os started H enc _ => calm_lifted os started H enc)
#print axioms calm_holds

end Go.Proofs.Ytnbndhmdfheikaa
