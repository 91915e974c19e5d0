/- bulwarklaw08.SessOnce: for every list of moves the call returns true, and the list reads afterwards as it read before. No condition. -/
import Derived.Test.YtkklghdmnkdofaaQ2
import Derived.Deep.Slices
namespace Go.Proofs.Ytkklghdmnkdofaa
open Go.ChangeShapes Go.WideShapes Go.ChangeAt Go.RowKit Go.Joins Go.Deep

theorem cells49 : Try.prog.cellsOf 49 = 3 := by kernel_rfl
theorem fields49 : ∃ a b c, Try.prog.underlying 49 = some (.struct #[a, b, c]) ∧ oneCellFields Try.prog #[a, b, c] = true ∧ a.type = 3 ∧ b.type = 3 ∧ c.type = 3 := by
  refine ⟨_, _, _, Try.underlying49, by kernel_rfl, rfl, rfl, rfl⟩
instance : Inhabited Mv := ⟨⟨0, 0, 0⟩⟩

/-- A list of moves that came in. -/
theorem open_moves {H : Type} {enc : TypeId × Value → H} {W : World} {r : Reach} {b0 : Nat} {v : Value} {d : DataW H} {p : List MemPlace} (hv : Value.okWide Try.prog W r b0 44 v) (h : DataW.Trod enc Try.prog W 0 (fun _ => true) true 44 v d p) :
    ∃ A n c l, v = .slice A n c ∧ n ≤ maxLen ∧ Rd W W.heap.size 3 A n (mvs l) := by
  obtain ⟨a0, l0, c0, rfl, _⟩ := okWide_slice Try.underlying44 hv
  obtain ⟨fuel, h⟩ := h
  obtain ⟨f0, f1, f2, hs, hone, t0, t1, t2⟩ := fields49
  rcases open_slice Try.underlying44 h with ⟨e0, _⟩ | ⟨ad, len, cap, m, n, D, Pl, e0, _, hl, hm, hk, _, hx⟩
  · simp [Value.cells] at e0
    obtain ⟨rfl, rfl, rfl⟩ := e0
    exact ⟨none, 0, 0, [], rfl, Nat.zero_le _, Rd.nil _ _ _ _⟩
  simp [Value.cells] at e0
  obtain ⟨rfl, rfl, rfl⟩ := e0
  have hk' : m = c0 := by simpa using hk
  subst hk'
  have o := hone_of hone
  have each : ∀ i, i < l0 → ∃ q : Mv, W.cell? (ad.add (i * 3)) = some (.int .i64 q.kind) ∧ W.cell? (ad.add (i * 3 + 1)) = some (.int .i64 q.who) ∧ W.cell? (ad.add (i * 3 + 2)) = some (.int .i64 q.i) := by
    intro i hi
    obtain ⟨cs', h1, h2⟩ := hx i (by omega)
    rw [cells49] at h1
    obtain ⟨_, hlen, hcell⟩ := World.cells?_some h1
    obtain ⟨xs, k, hk, hxy, _, hxl, hf⟩ := DataW.trod_struct hs h2
    match xs, hxl, cs', hlen with
    | [y0, y1, y2], _, [v0, v1, v2], _ =>
      have g0 := hf 0 f0 rfl
      have g1 := hf 1 f1 rfl
      have g2 := hf 2 f2 rfl
      rw [(o 0 f0 rfl).1, (o 0 f0 rfl).2, t0] at g0
      rw [(o 1 f1 rfl).1, (o 1 f1 rfl).2, t1] at g1
      rw [(o 2 f2 rfl).1, (o 2 f2 rfl).2, t2] at g2
      obtain ⟨x0, e0, _, _⟩ := DataW.trod_int Try.underlying3 (x := y0) (by simpa using g0)
      obtain ⟨x1, e1, _, _⟩ := DataW.trod_int Try.underlying3 (x := y1) (by simpa using g1)
      obtain ⟨x2, e2, _, _⟩ := DataW.trod_int Try.underlying3 (x := y2) (by simpa using g2)
      simp only [List.cons.injEq, and_true] at e0 e1 e2
      subst e0 e1 e2
      have c0 := hcell 0 (by omega)
      have c1 := hcell 1 (by omega)
      have c2 := hcell 2 (by omega)
      rw [Go.Deep.add_add] at c0 c1 c2
      exact ⟨⟨x0, x1, x2⟩, by simpa using c0, by simpa using c1, by simpa using c2⟩
  obtain ⟨q, hq⟩ := choose_lt each
  refine ⟨some ad, l0, m, (List.range l0).map q, rfl, Nat.le_trans hl hm, by rw [mvs_len]; simp, fun hpos => ⟨ad, rfl, ?_, fun j u hu => ?_⟩⟩
  · have := World.block_lt_of_cell? W _ (hq 0 hpos).1
    rwa [add_block] at this
  · have hj : j < l0 * 3 := by
      have := (List.getElem?_eq_some_iff.1 hu).1
      rw [mvs_len] at this
      simpa using this
    have hk : j / 3 < l0 := by omega
    obtain ⟨h0, h1, h2⟩ := hq (j / 3) hk
    have hlt : j / 3 < ((List.range l0).map q).length := by simpa using hk
    have hr : j = j / 3 * 3 + j % 3 := by omega
    have e := mvs_at ((List.range l0).map q) (j / 3) hlt (j % 3) (Nat.mod_lt _ (by decide))
    rw [← hr, hu] at e
    have eq1 : ((List.range l0).map q)[j / 3] = q (j / 3) := by simp
    rw [eq1] at e
    have h3 : j % 3 = 0 ∨ j % 3 = 1 ∨ j % 3 = 2 := by omega
    rcases h3 with h3 | h3 | h3 <;> rw [h3] at e hr <;> simp [Mv.cells] at e <;> subst e
    · have e : j = j / 3 * 3 := by omega
      exact (congrArg (fun m => W.cell? (ad.add m)) e).trans h0
    · exact (congrArg (fun m => W.cell? (ad.add m)) hr).trans h1
    · exact (congrArg (fun m => W.cell? (ad.add m)) hr).trans h2

set_option maxRecDepth 100000 in
theorem once_lifted (os : Os) (started : os.Started) (H : Type) (enc : TypeId × Value → H) :
    ReturnsInHanded {} Try.checked os 7 .any (Rows.sessOnceSpec.pre6 enc Try.prog Try.f7 Rows.sessOnceRow.domain false) (Rows.sessOnceSpec.post enc Try.prog Try.f7 false true false false) := by
  refine returnsInHanded_of_change (C := Try.checked) own started (by kernel_rfl) Try.func7
    (ChangeSpec.witness6 (enc := enc) (C := Try.checked) false ⟨#[], #[.slice none 0 0], []⟩ 7 (by kernel_rfl) (by kernel_rfl) (by kernel_rfl) (by kernel_rfl)) ?_
  intro W base args ds gs before hval0 hW hcnd _
  have hval : ∀ (j : Nat) t v, Try.f7.params[j]? = some t → args[j]? = some v → Value.okWide Try.prog W .any base t v := hval0
  have hW' := hW
  obtain ⟨p, q, hA0, hV, rfl, hfz, hnd⟩ := hW
  have hA : DataW.TrodAll enc Try.prog W 0 (fun _ => true) true Try.f7.params.toList args.toList ds p := hA0
  rw [Try.params7] at hA hval
  obtain ⟨v0, vs0, d0, ds0, p0, q0, hargs, rfl, rfl, h0, r0⟩ := trodAll_cons hA
  obtain ⟨rfl, rfl, rfl⟩ := trodAll_nil r0
  obtain rfl : args = #[v0] := by cases args; simp_all
  obtain ⟨A, n, c, l, rfl, hn, hr⟩ := open_moves (hval 0 44 v0 rfl rfl) h0
  refine (once_walk A n c l W hn hr).mono fun e W' ⟨he, hb⟩ => ?_
  exact ⟨_, he, law_post laidOut Try.underlying4 hW' rfl (by rw [Try.params7]; intro t ht; simp at ht; rcases ht with rfl; exact ⟨by kernel_rfl, of_decide_eq_true (by kernel_rfl)⟩) rfl rfl hb⟩

theorem once_holds : Rows.SessOnceSaid :=
  OpenClaim.holds_of_wide 7 Try.f7 rfl rfl rfl rfl rfl rfl rfl ⟨rfl, rfl, rfl, rfl, rfl⟩ rfl rfl rfl rfl rfl (by kernel_rfl) Try.func7 (by kernel_rfl)
    (of_decide_eq_true (by kernel_rfl)) (by unfold Func.isWrapper; first | (rw [if_pos (by decide +kernel)]; kernel_rfl) | (rw [if_neg (by decide +kernel)]; exact ⟨rfl, rfl⟩))
    (fun os started H enc _ => once_lifted os started H enc)
#print axioms once_holds

end Go.Proofs.Ytkklghdmnkdofaa
