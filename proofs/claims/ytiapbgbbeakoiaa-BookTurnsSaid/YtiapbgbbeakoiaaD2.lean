/- Arguments opened: numbers. By gen_d.py. -/
import Derived.Test.YtiapbgbbeakoiaaPD2
import Derived.Test.YtiapbgbbeakoiaaOD2
namespace Go.Proofs.Ytiapbgbbeakoiaa
open Go.ChangeShapes Go.WideShapes Go.ChangeAt Go.RowKit Go.Joins Go.Deep

theorem cells23 : Try.prog.cellsOf 23 = 2 := by kernel_rfl
/-- Two numbers that came in. -/
theorem open_two {H : Type} {enc : TypeId × Value → H} {W : World} {r : Reach} {b0 : Nat} {v : Value} {d : DataW H} {p : List MemPlace} (hv : Value.okWide Try.prog W r b0 23 v) (h : DataW.Trod enc Try.prog W 0 (fun _ => true) true 23 v d p) : ∃ x y : Int, v = .agg #[.int .i64 x, .int .i64 y] := by
  simp only [Value.okWide, Try.underlying23] at hv
  obtain ⟨cs, rfl, hsz, _⟩ := hv
  obtain ⟨fuel, h⟩ := h
  rw [cells23] at hsz
  obtain ⟨xs, m, _, _, _, hxl, hx⟩ := DataW.trod_array Try.underlying23 h
  obtain ⟨c0, c1, rfl⟩ : ∃ c0 c1, cs = #[c0, c1] := by
    obtain ⟨l⟩ := cs
    match l, hsz with
    | [c0, c1], _ => exact ⟨c0, c1, rfl⟩
  match xs, hxl with
  | [y0, y1], _ =>
    have g0 := hx 0 (by decide)
    have g1 := hx 1 (by decide)
    rw [P.cells3] at g0 g1
    obtain ⟨x0, e0, _, _⟩ := DataW.trod_int Try.underlying3 (x := y0) (by simpa [Value.cells] using g0)
    obtain ⟨x1, e1, _, _⟩ := DataW.trod_int Try.underlying3 (x := y1) (by simpa [Value.cells] using g1)
    simp only [List.cons.injEq, and_true] at e0 e1
    subst e0 e1
    exact ⟨x0, x1, rfl⟩

theorem cells33 : Try.prog.cellsOf 33 = 4 := by kernel_rfl
/-- Four numbers that came in. -/
theorem open_four {H : Type} {enc : TypeId × Value → H} {W : World} {r : Reach} {b0 : Nat} {v : Value} {d : DataW H} {p : List MemPlace} (hv : Value.okWide Try.prog W r b0 33 v) (h : DataW.Trod enc Try.prog W 0 (fun _ => true) true 33 v d p) : ∃ x y z u : Int, v = .agg #[.int .i64 x, .int .i64 y, .int .i64 z, .int .i64 u] := by
  simp only [Value.okWide, Try.underlying33] at hv
  obtain ⟨cs, rfl, hsz, _⟩ := hv
  obtain ⟨fuel, h⟩ := h
  rw [cells33] at hsz
  obtain ⟨xs, m, _, _, _, hxl, hx⟩ := DataW.trod_array Try.underlying33 h
  obtain ⟨c0, c1, c2, c3, rfl⟩ : ∃ c0 c1 c2 c3, cs = #[c0, c1, c2, c3] := by
    obtain ⟨l⟩ := cs
    match l, hsz with
    | [c0, c1, c2, c3], _ => exact ⟨c0, c1, c2, c3, rfl⟩
  match xs, hxl with
  | [y0, y1, y2, y3], _ =>
    have g0 := hx 0 (by decide)
    have g1 := hx 1 (by decide)
    have g2 := hx 2 (by decide)
    have g3 := hx 3 (by decide)
    rw [P.cells3] at g0 g1 g2 g3
    obtain ⟨x0, e0, _, _⟩ := DataW.trod_int Try.underlying3 (x := y0) (by simpa [Value.cells] using g0)
    obtain ⟨x1, e1, _, _⟩ := DataW.trod_int Try.underlying3 (x := y1) (by simpa [Value.cells] using g1)
    obtain ⟨x2, e2, _, _⟩ := DataW.trod_int Try.underlying3 (x := y2) (by simpa [Value.cells] using g2)
    obtain ⟨x3, e3, _, _⟩ := DataW.trod_int Try.underlying3 (x := y3) (by simpa [Value.cells] using g3)
    simp only [List.cons.injEq, and_true] at e0 e1 e2 e3
    subst e0 e1 e2 e3
    exact ⟨x0, x1, x2, x3, rfl⟩


end Go.Proofs.Ytiapbgbbeakoiaa
