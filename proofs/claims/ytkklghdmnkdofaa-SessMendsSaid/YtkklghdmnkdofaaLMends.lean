/- bulwarklaw08.SessMends: for every list of messages and every number the call returns true, and the list reads afterwards as it read before. No condition. -/
import Derived.Test.YtkklghdmnkdofaaM1
namespace Go.Proofs.Ytkklghdmnkdofaa
open Go.ChangeShapes Go.WideShapes Go.ChangeAt Go.RowKit Go.Joins Go.Deep

/-- A list of texts that came in. -/
theorem open_list {H : Type} {enc : TypeId × Value → H} {W : World} {r : Reach} {b0 : Nat} {v : Value} {d : DataW H} {p : List MemPlace} (hv : Value.okWide Try.prog W r b0 22 v) (h : DataW.Trod enc Try.prog W 0 (fun _ => true) true 22 v d p) :
    ∃ A n c l, v = .slice A n c ∧ n ≤ maxLen ∧ Rd W W.heap.size 1 A n ((l : List ByteArray).map Value.string) := by
  obtain ⟨a0, l0, c0, rfl, _⟩ := okWide_slice Try.underlying22 hv
  obtain ⟨fuel, h⟩ := h
  rcases open_strs Try.underlying22 Try.underlying9 cells9 h with ⟨e0, _⟩ | ⟨ad, len, cap, k, Sx, e0, _, hl, hm, hk, _, hc⟩
  · simp [Value.cells] at e0
    obtain ⟨rfl, rfl, rfl⟩ := e0
    exact ⟨none, 0, 0, [], rfl, Nat.zero_le _, Rd.nil _ _ _ _⟩
  · simp [Value.cells] at e0
    obtain ⟨rfl, rfl, rfl⟩ := e0
    have hk' : k = c0 := by simpa using hk
    subst hk'
    refine ⟨some ad, l0, k, (List.range l0).map Sx, rfl, Nat.le_trans hl hm, by simp, fun hpos => ⟨ad, rfl, ?_, fun j u hu => ?_⟩⟩
    · have := World.block_lt_of_cell? W _ (hc 0 (by omega)).1
      rwa [add_block] at this
    · have hj : j < l0 := by
        have := (List.getElem?_eq_some_iff.1 hu).1
        simpa using this
      have hS : (((List.range l0).map Sx).map Value.string)[j]? = some (.string (Sx j)) := by simp [hj]
      rw [hS] at hu
      rw [(hc j (by omega)).1]
      exact hu

set_option maxRecDepth 100000 in
theorem mends_lifted (os : Os) (started : os.Started) (H : Type) (enc : TypeId × Value → H) :
    ReturnsInHanded {} Try.checked os 8 .any (Rows.sessMendsSpec.pre6 enc Try.prog Try.f8 Rows.sessMendsRow.domain false) (Rows.sessMendsSpec.post enc Try.prog Try.f8 false true false false) := by
  refine returnsInHanded_of_change (C := Try.checked) own started (by kernel_rfl) Try.func8
    (ChangeSpec.witness6 (enc := enc) (C := Try.checked) false ⟨#[], #[.slice none 0 0, .int .i64 0], []⟩ 8 (by kernel_rfl) (by kernel_rfl) (by kernel_rfl) (by kernel_rfl)) ?_
  intro W base args ds gs before hval0 hW hcnd _
  have hval : ∀ (j : Nat) t v, Try.f8.params[j]? = some t → args[j]? = some v → Value.okWide Try.prog W .any base t v := hval0
  have hW' := hW
  obtain ⟨p, q, hA0, hV, rfl, hfz, hnd⟩ := hW
  have hA : DataW.TrodAll enc Try.prog W 0 (fun _ => true) true Try.f8.params.toList args.toList ds p := hA0
  rw [Try.params8] at hA hval
  obtain ⟨v0, vs0, d0, ds0, p0, q0, hargs, rfl, rfl, h0, r0⟩ := trodAll_cons hA
  obtain ⟨v1, vs1, d1, ds1, p1, q1, rfl, rfl, rfl, h1, r1⟩ := trodAll_cons r0
  obtain ⟨rfl, rfl, rfl⟩ := trodAll_nil r1
  obtain rfl : args = #[v0, v1] := by cases args; simp_all
  obtain ⟨A, n, c, l, rfl, hn, hr⟩ := open_list (hval 0 22 v0 rfl rfl) h0
  obtain ⟨tk, rfl, _, _, _⟩ := open_int Try.underlying3 (hval 1 3 v1 rfl rfl) h1
  refine (mends_walk A n c l tk W hn hr).mono fun e W' ⟨he, hb⟩ => ?_
  exact ⟨_, he, law_post laidOut Try.underlying4 hW' rfl (by rw [Try.params8]; intro t ht; simp at ht; rcases ht with rfl | rfl <;> exact ⟨by kernel_rfl, of_decide_eq_true (by kernel_rfl)⟩) rfl rfl hb⟩

theorem mends_holds : Rows.SessMendsSaid :=
  OpenClaim.holds_of_wide 8 Try.f8 rfl rfl rfl rfl rfl rfl rfl ⟨rfl, rfl, rfl, rfl, rfl⟩ rfl rfl rfl rfl rfl (by kernel_rfl) Try.func8 (by kernel_rfl)
    (of_decide_eq_true (by kernel_rfl)) (by unfold Func.isWrapper; first | (rw [if_pos (by decide +kernel)]; kernel_rfl) | (rw [if_neg (by decide +kernel)]; exact ⟨rfl, rfl⟩))
    (fun os started H enc _ => mends_lifted os started H enc)
#print axioms mends_holds

end Go.Proofs.Ytkklghdmnkdofaa
