/- bulwarklaw08.SessKeeps: for every end, every frame and every message the call returns true, and all three read afterwards as they read before. No condition. -/
import Derived.Test.YtkklghdmnkdofaaH3
import Derived.SizedLaws
namespace Go.Proofs.Ytkklghdmnkdofaa
open Go.ChangeShapes Go.WideShapes Go.ChangeAt Go.RowKit Go.Joins Go.Deep
open Go.ChangeMaps (open_string)

theorem bytes9 : Try.prog.bytesOf 9 = 16 := by kernel_rfl

/-- The reach of a struct's fields. -/
theorem sized_struct {H : Type} {P : Program} {ts : List TypeId} {ds parts : List (DataW H)} {fs : Array Field} (h : (DataW.weightsEach P ts ds).all (· ≤ reachBytes) = true) {j : Nat} {t : TypeId} (ht : ts[j]? = some t) (hd : ds[j]? = some (.agg parts)) (hu : P.underlying t = some (.struct fs)) :
    (DataW.weightsEach P (fs.toList.map (·.type)) parts).all (· ≤ reachBytes) = true := by
  rw [List.all_eq_true] at h ⊢
  intro n hn
  exact h n (DataW.weights_mem_each ht hd n (by simp only [DataW.weights, hu]; exact hn))

/-- An end that came in, within the reach. -/
theorem open_side_sized {H : Type} {enc : TypeId × Value → H} {W : World} {r : Reach} {b0 : Nat} {v : Value} {d : DataW H} {p : List MemPlace} {ts : List TypeId} {ds : List (DataW H)} (hv : Value.okWide Try.prog W r b0 24 v) (h : DataW.Trod enc Try.prog W 0 (fun _ => true) true 24 v d p)
    (hsz : (DataW.weightsEach Try.prog ts ds).all (· ≤ reachBytes) = true) (ht : ts[0]? = some 24) (hd : ds[0]? = some d) :
    ∃ A n c s, v = sideVal (.slice A n c) s ∧ s.sent.length = n ∧ (n + 2) * 16 ≤ 140737488355328 ∧ Rd W W.heap.size 1 A n (s.sent.map Value.string) := by
  obtain ⟨a, b, c, hs, hone, ta, tb, tc⟩ := fields24
  obtain ⟨v0, v1, v2, y0, y1, y2, m, rfl, rfl, _, h0, h1, h2⟩ := open_agg3 hs hone cells24 hv h
  have hin := sized_struct hsz ht hd hs
  rw [ta] at h0
  rw [tb] at h1
  rw [tc] at h2
  obtain ⟨x1, e1, _, _⟩ := DataW.trod_int Try.underlying3 h1
  obtain ⟨x2, e2, _, _⟩ := DataW.trod_int Try.underlying3 h2
  simp only [List.cons.injEq, and_true] at e1 e2
  subst e1 e2
  rcases open_strs Try.underlying22 Try.underlying9 cells9 h0 with ⟨e0, _⟩ | ⟨ad, len, cap, k, Sx, e0, _, hl, hm, hk, hx, hc⟩
  · simp only [List.cons.injEq, and_true] at e0
    subst e0
    exact ⟨none, 0, 0, ⟨[], x1, x2⟩, rfl, rfl, by omega, Rd.nil _ _ _ _⟩
  · simp only [List.cons.injEq, and_true] at e0
    subst e0
    have hk' : k = cap := by simpa using hk
    subst hk'
    rw [hx] at hin
    have hb := sized_slice hin (j := 0) (t := 22) (e := 9) (by simp [ta]) rfl Try.underlying22
    rw [bytes9] at hb
    simp only [List.length_map, List.length_range, reachBytes] at hb
    refine ⟨some ad, len, k, ⟨(List.range len).map Sx, x1, x2⟩, rfl, by simp, by omega, by simp, fun hpos => ⟨ad, rfl, ?_, fun j u hu => ?_⟩⟩
    · have := World.block_lt_of_cell? W _ (hc 0 (by omega)).1
      rwa [add_block] at this
    · have hj : j < len := by
        have := (List.getElem?_eq_some_iff.1 hu).1
        simpa using this
      have hS : (((List.range len).map Sx).map Value.string)[j]? = some (.string (Sx j)) := by simp [hj]
      rw [hS] at hu
      rw [(hc j (by omega)).1]
      exact hu

set_option maxRecDepth 100000 in
theorem keeps_lifted (os : Os) (started : os.Started) (H : Type) (enc : TypeId × Value → H) :
    ReturnsInHanded {} Try.checked os 4 .any (Rows.sessKeepsSpec.pre6 enc Try.prog Try.f4 Rows.sessKeepsRow.domain false) (Rows.sessKeepsSpec.post enc Try.prog Try.f4 false true false false) := by
  refine returnsInHanded_of_change_sized (C := Try.checked) own started (by kernel_rfl) Try.func4
    (ChangeSpec.witness6 (enc := enc) (C := Try.checked) false ⟨#[], #[.agg #[.slice none 0 0, .int .i64 0, .int .i64 0], .agg #[.int .i64 0, .int .i64 0, .int .i64 0, .string ⟨#[]⟩], .string ⟨#[]⟩], []⟩ 4 (by kernel_rfl) (by kernel_rfl) (by kernel_rfl) (by kernel_rfl)) ?_
  intro W base args ds gs before hval0 hW hcnd hsz0 _
  have hval : ∀ (j : Nat) t v, Try.f4.params[j]? = some t → args[j]? = some v → Value.okWide Try.prog W .any base t v := hval0
  have hsz : (DataW.weightsEach Try.prog (Try.f4.params.toList ++ Rows.sessKeepsSpec.plain.varTypes Try.prog) (ds ++ gs)).all (· ≤ reachBytes) = true := hsz0
  have hW' := hW
  obtain ⟨p, q, hA0, hV, rfl, hfz, hnd⟩ := hW
  have hA : DataW.TrodAll enc Try.prog W 0 (fun _ => true) true Try.f4.params.toList args.toList ds p := hA0
  rw [Try.params4] at hA hval hsz
  obtain ⟨v0, vs0, d0, ds0, p0, q0, hargs, rfl, rfl, h0, r0⟩ := trodAll_cons hA
  obtain ⟨v1, vs1, d1, ds1, p1, q1, rfl, rfl, rfl, h1, r1⟩ := trodAll_cons r0
  obtain ⟨v2, vs2, d2, ds2, p2, q2, rfl, rfl, rfl, h2, r2⟩ := trodAll_cons r1
  obtain ⟨rfl, rfl, rfl⟩ := trodAll_nil r2
  obtain rfl : args = #[v0, v1, v2] := by cases args; simp_all
  obtain ⟨A, n, c, s, rfl, hln, hn, hr⟩ := open_side_sized (hval 0 24 v0 rfl rfl) h0 hsz rfl rfl
  obtain ⟨f, rfl⟩ := open_frame (hval 1 26 v1 rfl rfl) h1
  obtain ⟨m, rfl, _, _, _⟩ := open_string Try.underlying9 (hval 2 9 v2 rfl rfl) h2
  refine (keeps_walk A n c s f m W hn hr).mono fun e W' ⟨he, hb⟩ => ?_
  exact ⟨_, he, law_post laidOut Try.underlying4 hW' rfl (by rw [Try.params4]; intro t ht; simp at ht; rcases ht with rfl | rfl | rfl <;> exact ⟨by kernel_rfl, of_decide_eq_true (by kernel_rfl)⟩) rfl rfl hb⟩

theorem keeps_holds : Rows.SessKeepsSaid :=
  OpenClaim.holds_of_wide 4 Try.f4 rfl rfl rfl rfl rfl rfl rfl ⟨rfl, rfl, rfl, rfl, rfl⟩ rfl rfl rfl rfl rfl (by kernel_rfl) Try.func4 (by kernel_rfl)
    (of_decide_eq_true (by kernel_rfl)) (by unfold Func.isWrapper; first | (rw [if_pos (by decide +kernel)]; kernel_rfl) | (rw [if_neg (by decide +kernel)]; exact ⟨rfl, rfl⟩))
    (fun os started H enc _ => keeps_lifted os started H enc)
#print axioms keeps_holds

end Go.Proofs.Ytkklghdmnkdofaa
