/- Arguments opened: a list of moves. -/
import Derived.Test.YtnbndhmdfheikaaL0
import Derived.Deep.Slices
namespace Go.Proofs.Ytnbndhmdfheikaa
open Go.ChangeShapes Go.WideShapes Go.ChangeAt Go.RowKit Go.Joins Go.Deep

theorem cells27 : Try.prog.cellsOf 27 = 4 := by kernel_rfl
theorem fieldsM : ∃ a b c d, Try.prog.underlying 27 = some (.struct #[a, b, c, d]) ∧ oneCellFields Try.prog #[a, b, c, d] = true ∧ a.type = 3 ∧ b.type = 3 ∧ c.type = 3 ∧ d.type = 9 := by
  refine ⟨_, _, _, _, Try.underlying27, by kernel_rfl, rfl, rfl, rfl, rfl⟩

/-- A list of moves that came in. -/
theorem open_moves {H : Type} {enc : TypeId × Value → H} {W : World} {r : Reach} {b0 : Nat} {v : Value} {d : DataW H} {p : List MemPlace} (hv : Value.okWide Try.prog W r b0 22 v) (h : DataW.Trod enc Try.prog W 0 (fun _ => true) true 22 v d p) :
    ∃ A n c l, v = .slice A n c ∧ n ≤ maxLen ∧ Rd W W.heap.size 4 A n (frs l) := by
  obtain ⟨a0, l0, c0, rfl, _⟩ := okWide_slice Try.underlying22 hv
  obtain ⟨fuel, h⟩ := h
  obtain ⟨f0, f1, f2, f3, hs, hone, t0, t1, t2, t3⟩ := fieldsM
  rcases open_slice Try.underlying22 h with ⟨e0, _⟩ | ⟨ad, len, cap, m, n, D, Pl, e0, _, hl, hm, hk, _, hx⟩
  · simp [Value.cells] at e0
    obtain ⟨rfl, rfl, rfl⟩ := e0
    exact ⟨none, 0, 0, [], rfl, Nat.zero_le _, Rd.nil _ _ _ _⟩
  simp [Value.cells] at e0
  obtain ⟨rfl, rfl, rfl⟩ := e0
  have hk' : m = c0 := by simpa using hk
  subst hk'
  have o := hone_of hone
  have each : ∀ i, i < l0 → ∃ q : Fr, W.cell? (ad.add (i * 4)) = some (.int .i64 q.kind) ∧ W.cell? (ad.add (i * 4 + 1)) = some (.int .i64 q.num) ∧ W.cell? (ad.add (i * 4 + 2)) = some (.int .i64 q.taken) ∧ W.cell? (ad.add (i * 4 + 3)) = some (.string q.body) := by
    intro i hi
    obtain ⟨cs', h1, h2⟩ := hx i (by omega)
    rw [cells27] at h1
    obtain ⟨_, hlen, hcell⟩ := World.cells?_some h1
    obtain ⟨xs, k, hk, hxy, _, hxl, hf⟩ := DataW.trod_struct hs h2
    match xs, hxl, cs', hlen with
    | [y0, y1, y2, y3], _, [v0, v1, v2, v3], _ =>
      have g0 := hf 0 f0 rfl
      have g1 := hf 1 f1 rfl
      have g2 := hf 2 f2 rfl
      have g3 := hf 3 f3 rfl
      rw [(o 0 f0 rfl).1, (o 0 f0 rfl).2, t0] at g0
      rw [(o 1 f1 rfl).1, (o 1 f1 rfl).2, t1] at g1
      rw [(o 2 f2 rfl).1, (o 2 f2 rfl).2, t2] at g2
      rw [(o 3 f3 rfl).1, (o 3 f3 rfl).2, t3] at g3
      obtain ⟨x0, e0, _, _⟩ := DataW.trod_int Try.underlying3 (x := y0) (by simpa using g0)
      obtain ⟨x1, e1, _, _⟩ := DataW.trod_int Try.underlying3 (x := y1) (by simpa using g1)
      obtain ⟨x2, e2, _, _⟩ := DataW.trod_int Try.underlying3 (x := y2) (by simpa using g2)
      obtain ⟨x3, e3, _, _⟩ := DataW.trod_string Try.underlying9 (x := y3) (by simpa using g3)
      simp only [List.cons.injEq, and_true] at e0 e1 e2 e3
      subst e0 e1 e2 e3
      have c0 := hcell 0 (by omega)
      have c1 := hcell 1 (by omega)
      have c2 := hcell 2 (by omega)
      have c3 := hcell 3 (by omega)
      rw [Go.Deep.add_add] at c0 c1 c2 c3
      exact ⟨⟨x0, x1, x2, x3⟩, by simpa using c0, by simpa using c1, by simpa using c2, by simpa using c3⟩
  obtain ⟨q, hq⟩ := choose_lt each
  refine ⟨some ad, l0, m, (List.range l0).map q, rfl, Nat.le_trans hl hm, by rw [frs_len]; simp, fun hpos => ⟨ad, rfl, ?_, fun j u hu => ?_⟩⟩
  · have := World.block_lt_of_cell? W _ (hq 0 hpos).1
    rwa [add_block] at this
  · have hj : j < l0 * 4 := by
      have := (List.getElem?_eq_some_iff.1 hu).1
      rw [frs_len] at this
      simpa using this
    have hk : j / 4 < l0 := by omega
    obtain ⟨h0, h1, h2, h3⟩ := hq (j / 4) hk
    have hlt : j / 4 < ((List.range l0).map q).length := by simpa using hk
    have hr : j = j / 4 * 4 + j % 4 := by omega
    have e := frs_at ((List.range l0).map q) (j / 4) hlt (j % 4) (Nat.mod_lt _ (by decide))
    rw [← hr, hu] at e
    have eq1 : ((List.range l0).map q)[j / 4] = q (j / 4) := by simp
    rw [eq1] at e
    have h5 : j % 4 = 0 ∨ j % 4 = 1 ∨ j % 4 = 2 ∨ j % 4 = 3 := by omega
    rcases h5 with h5 | h5 | h5 | h5 <;> rw [h5] at e hr <;> simp [Fr.cells] at e <;> subst e
    · have e : j = j / 4 * 4 := by omega
      exact (congrArg (fun m => W.cell? (ad.add m)) e).trans h0
    · exact (congrArg (fun m => W.cell? (ad.add m)) hr).trans h1
    · exact (congrArg (fun m => W.cell? (ad.add m)) hr).trans h2
    · exact (congrArg (fun m => W.cell? (ad.add m)) hr).trans h3

end Go.Proofs.Ytnbndhmdfheikaa
