/- bulwarklaw14.LocateKeeps: for every two lists and every three numbers the call returns true, and all read afterwards as they read before. No condition. -/
import Derived.Test.YtboehkcpgmpjjaaK2
import Derived.Test.YtboehkcpgmpjjaaD2
namespace Go.Proofs.Ytboehkcpgmpjjaa
open Go.ChangeShapes Go.WideShapes Go.ChangeAt Go.RowKit Go.Joins Go.Deep

section
variable {H : Type} {enc : TypeId × Value → H} {W : World} {r : Reach} {b0 : Nat} {v : Value} {d : DataW H} {p : List MemPlace}
/-- A list of numbers that came in; within the reach. -/
theorem open_nums3 {ts : List TypeId} {ds : List (DataW H)} (hv : Value.okWide Try.prog W r b0 22 v) (h : DataW.Trod enc Try.prog W 0 (fun _ => true) true 22 v d p)
    (hsz : (DataW.weightsEach Try.prog ts ds).all (· ≤ reachBytes) = true) {j : Nat} (ht : ts[j]? = some 22) (hd : ds[j]? = some d) :
    ∃ A n c l, v = .slice A n c ∧ (n + 3) * 8 ≤ 140737488355328 ∧ Rd W W.heap.size 1 A n (ints l) := by
  obtain ⟨a0, l0, c0, rfl, _⟩ := okWide_slice Try.underlying22 hv
  obtain ⟨fuel, h⟩ := h
  rcases open_slice1 Try.underlying22 cells3 h with ⟨e0, _⟩ | ⟨ad, len, cap, m, n, V, D, Pl, e0, _, hl, hm, hk, hx, hc⟩
  · simp [Value.cells] at e0
    obtain ⟨rfl, rfl, rfl⟩ := e0
    exact ⟨none, 0, 0, [], rfl, by omega, Rd.nil _ _ _ _⟩
  simp [Value.cells] at e0
  obtain ⟨rfl, rfl, rfl⟩ := e0
  have hk' : m = c0 := by simpa using hk
  subst hk'
  have each : ∀ i, i < l0 → ∃ q : Int, W.cell? (ad.add i) = some (.int .i64 q) := fun i hi => by
    obtain ⟨h1, h2⟩ := hc i (by omega)
    obtain ⟨x0, e0, _, _⟩ := DataW.trod_int Try.underlying3 h2
    simp only [List.cons.injEq, and_true] at e0
    rw [e0] at h1
    exact ⟨x0, h1⟩
  obtain ⟨q, hq⟩ := choose_lt each
  have hd' : d = .slice ((List.range l0).map D) ((List.range (m - l0)).map fun j => D (l0 + j)) := congrArg Prod.fst hx
  rw [hd'] at hd
  have hb := sized_slice hsz ht hd Try.underlying22
  rw [bytes3] at hb
  simp only [List.length_map, List.length_range, reachBytes] at hb
  refine ⟨some ad, l0, m, (List.range l0).map q, rfl, by omega, by rw [ints_len]; simp, fun hpos => ⟨ad, rfl, ?_, fun j u hu => ?_⟩⟩
  · have := World.block_lt_of_cell? W _ (hq 0 hpos)
    rwa [add_block] at this
  · have hj : j < l0 := by
      have := (List.getElem?_eq_some_iff.1 hu).1
      rw [ints_len] at this
      simpa using this
    have e : (ints ((List.range l0).map q))[j]? = some (.int .i64 (q j)) := by simp [ints, hj]
    rw [e] at hu
    rw [hq j hj]
    exact hu

end

set_option maxRecDepth 100000 in
theorem lkeeps_lifted (os : Os) (started : os.Started) (H : Type) (enc : TypeId × Value → H) :
    ReturnsInHanded {} Try.checked os 5 .any (Rows.locateKeepsSpec.pre6 enc Try.prog Try.f5 Rows.locateKeepsRow.domain false) (Rows.locateKeepsSpec.post enc Try.prog Try.f5 false true false false) := by
  refine returnsInHanded_of_change_sized (C := Try.checked) own started (by kernel_rfl) Try.func5
    (ChangeSpec.witness6 (enc := enc) (C := Try.checked) false ⟨#[], #[.slice none 0 0, .slice none 0 0, .agg #[.int .i64 0, .int .i64 0, .int .i64 0]], []⟩ 5 (by kernel_rfl) (by kernel_rfl) (by kernel_rfl) (by kernel_rfl)) ?_
  intro W base args ds gs before hval0 hW hcnd hsz0 _
  have hval : ∀ (j : Nat) t v, Try.f5.params[j]? = some t → args[j]? = some v → Value.okWide Try.prog W .any base t v := hval0
  have hsz : (DataW.weightsEach Try.prog (Try.f5.params.toList ++ Rows.locateKeepsSpec.plain.varTypes Try.prog) (ds ++ gs)).all (· ≤ reachBytes) = true := hsz0
  have hW' := hW
  obtain ⟨p, q, hA0, hV, rfl, hfz, hnd⟩ := hW
  have hA : DataW.TrodAll enc Try.prog W 0 (fun _ => true) true Try.f5.params.toList args.toList ds p := hA0
  rw [Try.params5] at hA hval hsz
  obtain ⟨v0, vs0, d0, ds0, p0, q0, hargs, rfl, rfl, h0, r0⟩ := trodAll_cons hA
  obtain ⟨v1, vs1, d1, ds1, p1, q1, rfl, rfl, rfl, h1, r1⟩ := trodAll_cons r0
  obtain ⟨v2, vs2, d2, ds2, p2, q2, rfl, rfl, rfl, h2, r2⟩ := trodAll_cons r1
  obtain ⟨rfl, rfl, rfl⟩ := trodAll_nil r2
  obtain rfl : args = #[v0, v1, v2] := by cases args; simp_all
  obtain ⟨A, n, c, av, rfl, hn, hra⟩ := open_nums3 (hval 0 22 v0 rfl rfl) h0 hsz (j := 0) rfl rfl
  obtain ⟨B, m, d, l, rfl, hm, hrl⟩ := open_locs (hval 1 23 v1 rfl rfl) h1
  obtain ⟨x, y, z, rfl⟩ := open_at (hval 2 25 v2 rfl rfl) h2
  refine (lkeeps_walk A B n c m d av l x y z W hn hm hra hrl).mono fun e W' ⟨he, hb⟩ => ?_
  exact ⟨_, he, law_post laidOut Try.underlying4 hW' rfl (by rw [Try.params5]; intro t ht; simp at ht; rcases ht with rfl | rfl | rfl <;> exact ⟨by kernel_rfl, of_decide_eq_true (by kernel_rfl)⟩) rfl rfl hb⟩

theorem lkeeps_holds : Rows.LocateKeepsSaid :=
  OpenClaim.holds_of_wide 5 Try.f5 rfl rfl rfl rfl rfl rfl rfl ⟨rfl, rfl, rfl, rfl, rfl⟩ rfl rfl rfl rfl rfl (by kernel_rfl) Try.func5 (by kernel_rfl)
    (of_decide_eq_true (by kernel_rfl)) (by unfold Func.isWrapper; first | (rw [if_pos (by decide +kernel)]; kernel_rfl) | (rw [if_neg (by decide +kernel)]; exact ⟨rfl, rfl⟩))
    (fun os started H enc _ => lkeeps_lifted os started H enc)
#print axioms lkeeps_holds

end Go.Proofs.Ytboehkcpgmpjjaa
