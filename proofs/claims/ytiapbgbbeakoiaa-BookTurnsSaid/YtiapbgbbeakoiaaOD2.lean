/- Arguments opened: lists. By gen_d.py. -/
import Derived.Test.YtiapbgbbeakoiaaD1
import Derived.Deep.Slices
import Derived.SizedLaws
namespace Go.Proofs.Ytiapbgbbeakoiaa.O
open Go.ChangeShapes Go.WideShapes Go.ChangeAt Go.RowKit Go.Joins Go.Deep

theorem cells38 : Try.prog.cellsOf 38 = 5 := by kernel_rfl
theorem cells3 : Try.prog.cellsOf 3 = 1 := by kernel_rfl
theorem fieldsL : ∃ a0 a1 a2 a3 a4, Try.prog.underlying 38 = some (.struct #[a0, a1, a2, a3, a4]) ∧ oneCellFields Try.prog #[a0, a1, a2, a3, a4] = true ∧ a0.type = 3 ∧ a1.type = 3 ∧ a2.type = 3 ∧ a3.type = 3 ∧ a4.type = 3 := by
  refine ⟨_, _, _, _, _, Try.underlying38, by kernel_rfl, rfl, rfl, rfl, rfl, rfl⟩

section
variable {H : Type} {enc : TypeId × Value → H} {W : World} {r : Reach} {b0 : Nat} {v : Value} {d : DataW H} {p : List MemPlace}

/-- A list of reservations that came in. -/
theorem open_locs (hv : Value.okWide Try.prog W r b0 32 v) (h : DataW.Trod enc Try.prog W 0 (fun _ => true) true 32 v d p) :
    ∃ A n c l, v = .slice A n c ∧ n ≤ maxLen ∧ Rd W W.heap.size 5 A n (lcs l) := by
  obtain ⟨a0, l0, c0, rfl, _⟩ := okWide_slice Try.underlying32 hv
  obtain ⟨fuel, h⟩ := h
  obtain ⟨f0, f1, f2, f3, f4, hs, hone, t0, t1, t2, t3, t4⟩ := fieldsL
  rcases open_slice Try.underlying32 h with ⟨e0, _⟩ | ⟨ad, len, cap, m, n, D, Pl, e0, _, hl, hm, hk, _, hx⟩
  · simp [Value.cells] at e0
    obtain ⟨rfl, rfl, rfl⟩ := e0
    exact ⟨none, 0, 0, [], rfl, Nat.zero_le _, Rd.nil _ _ _ _⟩
  simp [Value.cells] at e0
  obtain ⟨rfl, rfl, rfl⟩ := e0
  have hk' : m = c0 := by simpa using hk
  subst hk'
  have o := hone_of hone
  have each : ∀ i, i < l0 → ∃ q : Lc, W.cell? (ad.add (i * 5)) = some (.int .i64 q.acct) ∧ W.cell? (ad.add (i * 5 + 1)) = some (.int .i64 q.id) ∧ W.cell? (ad.add (i * 5 + 2)) = some (.int .i64 q.instr) ∧ W.cell? (ad.add (i * 5 + 3)) = some (.int .i64 q.qty) ∧ W.cell? (ad.add (i * 5 + 4)) = some (.int .i64 q.price) := by
    intro i hi
    obtain ⟨cs', h1, h2⟩ := hx i (by omega)
    rw [cells38] at h1
    obtain ⟨_, hlen, hcell⟩ := World.cells?_some h1
    obtain ⟨xs, k, hk, hxy, _, hxl, hf⟩ := DataW.trod_struct hs h2
    match xs, hxl, cs', hlen with
    | [y0, y1, y2, y3, y4], _, [v0, v1, v2, v3, v4], _ =>
      have g0 := hf 0 f0 rfl
      have g1 := hf 1 f1 rfl
      have g2 := hf 2 f2 rfl
      have g3 := hf 3 f3 rfl
      have g4 := hf 4 f4 rfl
      rw [(o 0 f0 rfl).1, (o 0 f0 rfl).2, t0] at g0
      rw [(o 1 f1 rfl).1, (o 1 f1 rfl).2, t1] at g1
      rw [(o 2 f2 rfl).1, (o 2 f2 rfl).2, t2] at g2
      rw [(o 3 f3 rfl).1, (o 3 f3 rfl).2, t3] at g3
      rw [(o 4 f4 rfl).1, (o 4 f4 rfl).2, t4] at g4
      obtain ⟨x0, e0, _, _⟩ := DataW.trod_int Try.underlying3 (x := y0) (by simpa using g0)
      obtain ⟨x1, e1, _, _⟩ := DataW.trod_int Try.underlying3 (x := y1) (by simpa using g1)
      obtain ⟨x2, e2, _, _⟩ := DataW.trod_int Try.underlying3 (x := y2) (by simpa using g2)
      obtain ⟨x3, e3, _, _⟩ := DataW.trod_int Try.underlying3 (x := y3) (by simpa using g3)
      obtain ⟨x4, e4, _, _⟩ := DataW.trod_int Try.underlying3 (x := y4) (by simpa using g4)
      simp only [List.cons.injEq, and_true] at e0 e1 e2 e3 e4
      subst e0 e1 e2 e3 e4
      have c0 := hcell 0 (by omega)
      have c1 := hcell 1 (by omega)
      have c2 := hcell 2 (by omega)
      have c3 := hcell 3 (by omega)
      have c4 := hcell 4 (by omega)
      rw [Go.Deep.add_add] at c0 c1 c2 c3 c4
      exact ⟨⟨x0, x1, x2, x3, x4⟩, by simpa using c0, by simpa using c1, by simpa using c2, by simpa using c3, by simpa using c4⟩
  obtain ⟨q, hq⟩ := choose_lt each
  refine ⟨some ad, l0, m, (List.range l0).map q, rfl, Nat.le_trans hl hm, by rw [lcs_len]; simp, fun hpos => ⟨ad, rfl, ?_, fun j u hu => ?_⟩⟩
  · have := World.block_lt_of_cell? W _ (hq 0 hpos).1
    rwa [add_block] at this
  · have hj : j < l0 * 5 := by
      have := (List.getElem?_eq_some_iff.1 hu).1
      rw [lcs_len] at this
      simpa using this
    have hk : j / 5 < l0 := by omega
    obtain ⟨hh0, hh1, hh2, hh3, hh4⟩ := hq (j / 5) hk
    have hlt : j / 5 < ((List.range l0).map q).length := by simpa using hk
    have hr : j = j / 5 * 5 + j % 5 := by omega
    have e := lcs_at ((List.range l0).map q) (j / 5) hlt (j % 5) (Nat.mod_lt _ (by decide))
    rw [← hr, hu] at e
    have eq1 : ((List.range l0).map q)[j / 5] = q (j / 5) := by simp
    rw [eq1] at e
    have h3 : j % 5 = 0 ∨ j % 5 = 1 ∨ j % 5 = 2 ∨ j % 5 = 3 ∨ j % 5 = 4 := by omega
    rcases h3 with h3 | h3 | h3 | h3 | h3 <;> rw [h3] at e hr <;> simp [Lc.cells] at e <;> subst e
    · have e : j = j / 5 * 5 := by omega
      exact (congrArg (fun m => W.cell? (ad.add m)) e).trans hh0
    · exact (congrArg (fun m => W.cell? (ad.add m)) hr).trans hh1
    · exact (congrArg (fun m => W.cell? (ad.add m)) hr).trans hh2
    · exact (congrArg (fun m => W.cell? (ad.add m)) hr).trans hh3
    · exact (congrArg (fun m => W.cell? (ad.add m)) hr).trans hh4

/-- One of them that came in. -/
theorem open_one (hv : Value.okWide Try.prog W r b0 38 v) (h : DataW.Trod enc Try.prog W 0 (fun _ => true) true 38 v d p) : ∃ x : Lc, v = x.val := by
  obtain ⟨f0, f1, f2, f3, f4, hs, hone, t0, t1, t2, t3, t4⟩ := fieldsL
  obtain ⟨cs, rfl, hsz⟩ := okWide_struct hs hv
  rw [cells38] at hsz
  obtain ⟨v0, v1, v2, v3, v4, rfl⟩ : ∃ v0 v1 v2 v3 v4, cs = #[v0, v1, v2, v3, v4] := by
    obtain ⟨l⟩ := cs
    match l, hsz with
    | [v0, v1, v2, v3, v4], _ => exact ⟨v0, v1, v2, v3, v4, rfl⟩
  obtain ⟨fuel, h⟩ := h
  have o := hone_of hone
  obtain ⟨xs, k, hk, hxy, _, hxl, hf⟩ := DataW.trod_struct hs h
  match xs, hxl with
  | [y0, y1, y2, y3, y4], _ =>
    have g0 := hf 0 f0 rfl
    have g1 := hf 1 f1 rfl
    have g2 := hf 2 f2 rfl
    have g3 := hf 3 f3 rfl
    have g4 := hf 4 f4 rfl
    rw [(o 0 f0 rfl).1, (o 0 f0 rfl).2, t0] at g0
    rw [(o 1 f1 rfl).1, (o 1 f1 rfl).2, t1] at g1
    rw [(o 2 f2 rfl).1, (o 2 f2 rfl).2, t2] at g2
    rw [(o 3 f3 rfl).1, (o 3 f3 rfl).2, t3] at g3
    rw [(o 4 f4 rfl).1, (o 4 f4 rfl).2, t4] at g4
    obtain ⟨x0, e0, _, _⟩ := DataW.trod_int Try.underlying3 (x := y0) (by simpa [Value.cells] using g0)
    obtain ⟨x1, e1, _, _⟩ := DataW.trod_int Try.underlying3 (x := y1) (by simpa [Value.cells] using g1)
    obtain ⟨x2, e2, _, _⟩ := DataW.trod_int Try.underlying3 (x := y2) (by simpa [Value.cells] using g2)
    obtain ⟨x3, e3, _, _⟩ := DataW.trod_int Try.underlying3 (x := y3) (by simpa [Value.cells] using g3)
    obtain ⟨x4, e4, _, _⟩ := DataW.trod_int Try.underlying3 (x := y4) (by simpa [Value.cells] using g4)
    simp only [List.cons.injEq, and_true] at e0 e1 e2 e3 e4
    subst e0 e1 e2 e3 e4
    exact ⟨⟨x0, x1, x2, x3, x4⟩, rfl⟩
theorem bytes38 : Try.prog.bytesOf 38 = 40 := by kernel_rfl
/-- A list that came in lies within the reach. -/
theorem size_locs {ts : List TypeId} {ds : List (DataW H)} (hv : Value.okWide Try.prog W r b0 32 v) (h : DataW.Trod enc Try.prog W 0 (fun _ => true) true 32 v d p)
    (hsz : (DataW.weightsEach Try.prog ts ds).all (· ≤ reachBytes) = true) {j : Nat} (ht : ts[j]? = some 32) (hd : ds[j]? = some d) {A : Option Addr} {n' c' : Nat} (he : v = .slice A n' c') : n' * 40 ≤ 140737488355328 := by
  obtain ⟨a0, l0, c0, rfl, _⟩ := okWide_slice Try.underlying32 hv
  injection he with e1 e2 e3
  subst e1 e2 e3
  obtain ⟨fuel, h⟩ := h
  rcases open_slice Try.underlying32 h with ⟨e0, _⟩ | ⟨ad, len, cap, m, n, D, Pl, e0, _, hl, hm, hk, hx, _⟩
  · simp [Value.cells] at e0
    obtain ⟨rfl, rfl, rfl⟩ := e0
    omega
  simp [Value.cells] at e0
  obtain ⟨rfl, rfl, rfl⟩ := e0
  have hd' : d = .slice ((List.range l0).map D) ((List.range (m - l0)).map fun j => D (l0 + j)) := congrArg Prod.fst hx
  rw [hd'] at hd
  have hb := sized_slice hsz ht hd Try.underlying32
  rw [bytes38] at hb
  simp only [List.length_map, List.length_range, reachBytes] at hb
  omega
theorem cap_locs (hv : Value.okWide Try.prog W r b0 32 v) (h : DataW.Trod enc Try.prog W 0 (fun _ => true) true 32 v d p) {A : Option Addr} {n' c' : Nat} (he : v = .slice A n' c') : n' ≤ c' := by
  obtain ⟨a0, l0, c0, rfl, _⟩ := okWide_slice Try.underlying32 hv
  injection he with e1 e2 e3
  subst e1 e2 e3
  obtain ⟨fuel, h⟩ := h
  rcases open_slice Try.underlying32 h with ⟨e0, _⟩ | ⟨ad, len, cap, m, n, D, Pl, e0, _, hl, hm, hk, hx, _⟩
  · simp [Value.cells] at e0
    obtain ⟨rfl, rfl, rfl⟩ := e0
    omega
  simp [Value.cells] at e0
  obtain ⟨rfl, rfl, rfl⟩ := e0
  exact hl
end

end Go.Proofs.Ytiapbgbbeakoiaa.O
