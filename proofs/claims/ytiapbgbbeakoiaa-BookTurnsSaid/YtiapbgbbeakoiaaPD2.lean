/- Arguments opened: lists. By gen_d.py. -/
import Derived.Test.YtiapbgbbeakoiaaD1
import Derived.Deep.Slices
import Derived.SizedLaws
namespace Go.Proofs.Ytiapbgbbeakoiaa.P
open Go.ChangeShapes Go.WideShapes Go.ChangeAt Go.RowKit Go.Joins Go.Deep

theorem cells36 : Try.prog.cellsOf 36 = 3 := by kernel_rfl
theorem cells3 : Try.prog.cellsOf 3 = 1 := by kernel_rfl
theorem fieldsL : ∃ a0 a1 a2, Try.prog.underlying 36 = some (.struct #[a0, a1, a2]) ∧ oneCellFields Try.prog #[a0, a1, a2] = true ∧ a0.type = 3 ∧ a1.type = 3 ∧ a2.type = 3 := by
  refine ⟨_, _, _, Try.underlying36, by kernel_rfl, rfl, rfl, rfl⟩

section
variable {H : Type} {enc : TypeId × Value → H} {W : World} {r : Reach} {b0 : Nat} {v : Value} {d : DataW H} {p : List MemPlace}

/-- A list of reservations that came in. -/
theorem open_locs (hv : Value.okWide Try.prog W r b0 22 v) (h : DataW.Trod enc Try.prog W 0 (fun _ => true) true 22 v d p) :
    ∃ A n c l, v = .slice A n c ∧ n ≤ maxLen ∧ Rd W W.heap.size 3 A n (lcs l) := by
  obtain ⟨a0, l0, c0, rfl, _⟩ := okWide_slice Try.underlying22 hv
  obtain ⟨fuel, h⟩ := h
  obtain ⟨f0, f1, f2, hs, hone, t0, t1, t2⟩ := fieldsL
  rcases open_slice Try.underlying22 h with ⟨e0, _⟩ | ⟨ad, len, cap, m, n, D, Pl, e0, _, hl, hm, hk, _, hx⟩
  · simp [Value.cells] at e0
    obtain ⟨rfl, rfl, rfl⟩ := e0
    exact ⟨none, 0, 0, [], rfl, Nat.zero_le _, Rd.nil _ _ _ _⟩
  simp [Value.cells] at e0
  obtain ⟨rfl, rfl, rfl⟩ := e0
  have hk' : m = c0 := by simpa using hk
  subst hk'
  have o := hone_of hone
  have each : ∀ i, i < l0 → ∃ q : Lc, W.cell? (ad.add (i * 3)) = some (.int .i64 q.acct) ∧ W.cell? (ad.add (i * 3 + 1)) = some (.int .i64 q.instr) ∧ W.cell? (ad.add (i * 3 + 2)) = some (.int .i64 q.qty) := by
    intro i hi
    obtain ⟨cs', h1, h2⟩ := hx i (by omega)
    rw [cells36] at h1
    obtain ⟨_, hlen, hcell⟩ := World.cells?_some h1
    obtain ⟨xs, k, hk, hxy, _, hxl, hf⟩ := DataW.trod_struct hs h2
    match xs, hxl, cs', hlen with
    | [y0, y1, y2], _, [v0, v1, v2], _ =>
      have g0 := hf 0 f0 rfl
      have g1 := hf 1 f1 rfl
      have g2 := hf 2 f2 rfl
      rw [(o 0 f0 rfl).1, (o 0 f0 rfl).2, t0] at g0
      rw [(o 1 f1 rfl).1, (o 1 f1 rfl).2, t1] at g1
      rw [(o 2 f2 rfl).1, (o 2 f2 rfl).2, t2] at g2
      obtain ⟨x0, e0, _, _⟩ := DataW.trod_int Try.underlying3 (x := y0) (by simpa using g0)
      obtain ⟨x1, e1, _, _⟩ := DataW.trod_int Try.underlying3 (x := y1) (by simpa using g1)
      obtain ⟨x2, e2, _, _⟩ := DataW.trod_int Try.underlying3 (x := y2) (by simpa using g2)
      simp only [List.cons.injEq, and_true] at e0 e1 e2
      subst e0 e1 e2
      have c0 := hcell 0 (by omega)
      have c1 := hcell 1 (by omega)
      have c2 := hcell 2 (by omega)
      rw [Go.Deep.add_add] at c0 c1 c2
      exact ⟨⟨x0, x1, x2⟩, by simpa using c0, by simpa using c1, by simpa using c2⟩
  obtain ⟨q, hq⟩ := choose_lt each
  refine ⟨some ad, l0, m, (List.range l0).map q, rfl, Nat.le_trans hl hm, by rw [lcs_len]; simp, fun hpos => ⟨ad, rfl, ?_, fun j u hu => ?_⟩⟩
  · have := World.block_lt_of_cell? W _ (hq 0 hpos).1
    rwa [add_block] at this
  · have hj : j < l0 * 3 := by
      have := (List.getElem?_eq_some_iff.1 hu).1
      rw [lcs_len] at this
      simpa using this
    have hk : j / 3 < l0 := by omega
    obtain ⟨hh0, hh1, hh2⟩ := hq (j / 3) hk
    have hlt : j / 3 < ((List.range l0).map q).length := by simpa using hk
    have hr : j = j / 3 * 3 + j % 3 := by omega
    have e := lcs_at ((List.range l0).map q) (j / 3) hlt (j % 3) (Nat.mod_lt _ (by decide))
    rw [← hr, hu] at e
    have eq1 : ((List.range l0).map q)[j / 3] = q (j / 3) := by simp
    rw [eq1] at e
    have h3 : j % 3 = 0 ∨ j % 3 = 1 ∨ j % 3 = 2 := by omega
    rcases h3 with h3 | h3 | h3 <;> rw [h3] at e hr <;> simp [Lc.cells] at e <;> subst e
    · have e : j = j / 3 * 3 := by omega
      exact (congrArg (fun m => W.cell? (ad.add m)) e).trans hh0
    · exact (congrArg (fun m => W.cell? (ad.add m)) hr).trans hh1
    · exact (congrArg (fun m => W.cell? (ad.add m)) hr).trans hh2

/-- One of them that came in. -/
theorem open_one (hv : Value.okWide Try.prog W r b0 36 v) (h : DataW.Trod enc Try.prog W 0 (fun _ => true) true 36 v d p) : ∃ x : Lc, v = x.val := by
  obtain ⟨f0, f1, f2, hs, hone, t0, t1, t2⟩ := fieldsL
  obtain ⟨cs, rfl, hsz⟩ := okWide_struct hs hv
  rw [cells36] at hsz
  obtain ⟨v0, v1, v2, rfl⟩ : ∃ v0 v1 v2, cs = #[v0, v1, v2] := by
    obtain ⟨l⟩ := cs
    match l, hsz with
    | [v0, v1, v2], _ => exact ⟨v0, v1, v2, rfl⟩
  obtain ⟨fuel, h⟩ := h
  have o := hone_of hone
  obtain ⟨xs, k, hk, hxy, _, hxl, hf⟩ := DataW.trod_struct hs h
  match xs, hxl with
  | [y0, y1, y2], _ =>
    have g0 := hf 0 f0 rfl
    have g1 := hf 1 f1 rfl
    have g2 := hf 2 f2 rfl
    rw [(o 0 f0 rfl).1, (o 0 f0 rfl).2, t0] at g0
    rw [(o 1 f1 rfl).1, (o 1 f1 rfl).2, t1] at g1
    rw [(o 2 f2 rfl).1, (o 2 f2 rfl).2, t2] at g2
    obtain ⟨x0, e0, _, _⟩ := DataW.trod_int Try.underlying3 (x := y0) (by simpa [Value.cells] using g0)
    obtain ⟨x1, e1, _, _⟩ := DataW.trod_int Try.underlying3 (x := y1) (by simpa [Value.cells] using g1)
    obtain ⟨x2, e2, _, _⟩ := DataW.trod_int Try.underlying3 (x := y2) (by simpa [Value.cells] using g2)
    simp only [List.cons.injEq, and_true] at e0 e1 e2
    subst e0 e1 e2
    exact ⟨⟨x0, x1, x2⟩, rfl⟩
theorem bytes36 : Try.prog.bytesOf 36 = 24 := by kernel_rfl
/-- A list that came in lies within the reach. -/
theorem size_locs {ts : List TypeId} {ds : List (DataW H)} (hv : Value.okWide Try.prog W r b0 22 v) (h : DataW.Trod enc Try.prog W 0 (fun _ => true) true 22 v d p)
    (hsz : (DataW.weightsEach Try.prog ts ds).all (· ≤ reachBytes) = true) {j : Nat} (ht : ts[j]? = some 22) (hd : ds[j]? = some d) {A : Option Addr} {n' c' : Nat} (he : v = .slice A n' c') : n' * 24 ≤ 140737488355328 := by
  obtain ⟨a0, l0, c0, rfl, _⟩ := okWide_slice Try.underlying22 hv
  injection he with e1 e2 e3
  subst e1 e2 e3
  obtain ⟨fuel, h⟩ := h
  rcases open_slice Try.underlying22 h with ⟨e0, _⟩ | ⟨ad, len, cap, m, n, D, Pl, e0, _, hl, hm, hk, hx, _⟩
  · simp [Value.cells] at e0
    obtain ⟨rfl, rfl, rfl⟩ := e0
    omega
  simp [Value.cells] at e0
  obtain ⟨rfl, rfl, rfl⟩ := e0
  have hd' : d = .slice ((List.range l0).map D) ((List.range (m - l0)).map fun j => D (l0 + j)) := congrArg Prod.fst hx
  rw [hd'] at hd
  have hb := sized_slice hsz ht hd Try.underlying22
  rw [bytes36] at hb
  simp only [List.length_map, List.length_range, reachBytes] at hb
  omega
theorem cap_locs (hv : Value.okWide Try.prog W r b0 22 v) (h : DataW.Trod enc Try.prog W 0 (fun _ => true) true 22 v d p) {A : Option Addr} {n' c' : Nat} (he : v = .slice A n' c') : n' ≤ c' := by
  obtain ⟨a0, l0, c0, rfl, _⟩ := okWide_slice Try.underlying22 hv
  injection he with e1 e2 e3
  subst e1 e2 e3
  obtain ⟨fuel, h⟩ := h
  rcases open_slice Try.underlying22 h with ⟨e0, _⟩ | ⟨ad, len, cap, m, n, D, Pl, e0, _, hl, hm, hk, hx, _⟩
  · simp [Value.cells] at e0
    obtain ⟨rfl, rfl, rfl⟩ := e0
    omega
  simp [Value.cells] at e0
  obtain ⟨rfl, rfl, rfl⟩ := e0
  exact hl
end

end Go.Proofs.Ytiapbgbbeakoiaa.P
