/- SessKeeps: rows that are written, and what stays. -/
import Derived.Test.YtkklghdmnkdofaaO1
namespace Go.Proofs.Ytkklghdmnkdofaa
open Go.RowKit

/-- A row of its own, whatever it holds. -/
def Ow (w : World) (base e k : Nat) (A : Option Addr) (n c : Nat) : Prop := ∃ xs, w.ownsRow base e k (.slice A n c) n xs

section
variable {w w' V W : World} {base e k n c lo hi : Nat} {A : Option Addr}

theorem Ow.of {xs : List Value} (h : w.ownsRow base e k (.slice A n c) n xs) : Ow w base e k A n c := ⟨xs, h⟩

theorem Ow.set (h : Ow w base e k A n c) (g i : Nat) (u : Value) : Ow (w.setCell ⟨g, i, none⟩ u) base e k A n c := by
  obtain ⟨xs, hl, h⟩ := h
  rcases h with ⟨hv, h0⟩ | ⟨b, cap, cur, hv, hb, hh, h1, h2, h3, h4⟩
  · injection hv with a1 a2 a3
    subst a1 a2 a3
    exact ⟨[], by simp, .inl ⟨rfl, rfl⟩⟩
  · by_cases hg : b = g
    · subst hg
      have hB : Bk w b e cur := hh
      refine ⟨(cur.setIfInBounds i u).toList.take (n * k), ?_, .inr ⟨b, cap, _, hv, hb, hB.set i u, h1, h2, by simp [h3], rfl⟩⟩
      have hm : n * k ≤ cap * k := Nat.mul_le_mul_right k h1
      simp only [List.length_take, Array.length_toList, Array.size_setIfInBounds]
      omega
    · have hB : Bk w b e cur := hh
      exact ⟨xs, hl, .inr ⟨b, cap, cur, hv, hb, hB.far (p := ⟨g, i, none⟩) hg u, h1, h2, h3, h4⟩⟩

/-- Its cells are there and may be written. -/
theorem Ow.cell (h : Ow w base e k A n c) {j : Nat} (hj : j < n * k) : ∃ g, A = some ⟨g, 0, none⟩ ∧ base ≤ g ∧ g < w.heap.size ∧ (∃ u, w.cell? ⟨g, j, none⟩ = some u) ∧ w.frozen? ⟨g, j, none⟩ = false := by
  obtain ⟨xs, hl, h⟩ := h
  rcases h with ⟨hv, h0⟩ | ⟨b, cap, cur, hv, hb, hh, h1, h2, h3, h4⟩
  · subst h0
    simp at hj
  · injection hv with a1 a2 a3
    have hB : Bk w b e cur := hh
    refine ⟨b, a1, hb, hB.lt, ?_, hB.frozen j⟩
    have hm : n * k ≤ cap * k := Nat.mul_le_mul_right k h1
    have hs : j < cur.size := by omega
    exact ⟨cur[j], by rw [hB.cell]; simp [hs]⟩

/-- All is as it was but the blocks from lo to hi. -/
structure Ex (lo hi : Nat) (V W : World) : Prop where
  os : W.os = V.os
  tape : W.tape = V.tape
  output : W.output = V.output
  size : V.heap.size ≤ W.heap.size
  block : ∀ b, b < V.heap.size → (b < lo ∨ hi ≤ b) → W.heap[b]? = V.heap[b]?

theorem Ex.refl (V : World) : Ex lo hi V V := ⟨rfl, rfl, rfl, Nat.le_refl _, fun _ _ _ => rfl⟩
theorem Ex.drew (h : Ex lo hi V W) : Ex lo hi V W.drew := ⟨h.os, h.tape, h.output, h.size, h.block⟩
theorem Ex.alloc (h : Ex lo hi V W) (o : Obj) : Ex lo hi V (W.alloc o) :=
  ⟨h.os, h.tape, h.output, Nat.le_trans h.size (by simp), fun b hb hr => (Below.heap_alloc W o b (Nat.lt_of_lt_of_le hb h.size)).trans (h.block b hb hr)⟩
theorem Ex.set (h : Ex lo hi V W) {g : Nat} (h1 : lo ≤ g) (h2 : g < hi) (i : Nat) (u : Value) : Ex lo hi V (W.setCell ⟨g, i, none⟩ u) :=
  ⟨h.os, h.tape, h.output, by simpa [World.setCell] using h.size, fun b hb hr => (Below.heap_setCell W ⟨g, i, none⟩ u b (by simp only; omega)).trans (h.block b hb hr)⟩
theorem Ex.below {B : Nat} (h : Ex lo hi V W) (hb : Below B W w') (hB : V.heap.size ≤ B) : Ex lo hi V w' :=
  ⟨hb.os.trans h.os, hb.tape.trans h.tape, hb.output.trans h.output, Nat.le_trans h.size hb.size, fun b hb' hr => (hb.block b (by omega)).trans (h.block b hb' hr)⟩
theorem Ex.grown {row : Option Nat} (h : Ex lo hi V W) (hg : W.grownBy w' row) (hr : ∀ g, row = some g → lo ≤ g ∧ g < hi) : Ex lo hi V w' :=
  ⟨hg.os.trans h.os, hg.tape.trans h.tape, hg.output.trans h.output, Nat.le_trans h.size hg.size, fun b hb hr' => (hg.block b (Nat.lt_of_lt_of_le hb h.size) (fun e => by have := hr b e.symm; omega)).trans (h.block b hb hr')⟩
theorem Ex.bk (h : Ex lo hi V W) {g : Nat} {t : TypeId} {cs : Array Value} (hb : Bk V g t cs) (hr : g < lo ∨ hi ≤ g) : Bk W g t cs := (h.block g hb.lt hr).trans hb
theorem Ex.own (h : Ex lo hi V W) {xs : List Value} (ho : V.ownsRow base e k (.slice A n c) n xs) (hr : ∀ p, A = some p → p.block < lo ∨ hi ≤ p.block) : W.ownsRow base e k (.slice A n c) n xs :=
  own_keep ho fun p hp => h.block p.block (own_lt ho p hp).2 (hr p hp)
theorem Ex.rd {xs : List Value} {B : Nat} (h : Ex lo hi V W) (hr : Rd V B k A n xs) (h1 : B ≤ lo) (h2 : B ≤ V.heap.size) : Rd W B k A n xs :=
  hr.of_cells fun p hp => World.cell?_of_block (h.block p.block (by omega) (.inl (by omega)))
theorem Ex.toBelow {B : Nat} (h : Ex lo hi V W) (hb : Below B w V) (h1 : B ≤ lo) (h2 : B ≤ V.heap.size) : Below B w W :=
  ⟨h.os.trans hb.os, h.tape.trans hb.tape, h.output.trans hb.output, Nat.le_trans hb.size h.size, fun b hb' => (h.block b (by omega) (.inl (by omega))).trans (hb.block b hb')⟩
end

/-- The variables a and b and the rows that are written. -/
structure KW (lo hi : Nat) (V : World) (ga gb : Nat) (Aa : Option Addr) (na ca : Nat) (va : Sd) (Ab : Option Addr) (nb cb : Nat) (vb : Sd) (X : Option Addr) (nx cx : Nat) (W : World) : Prop where
  ex : Ex lo hi V W
  a : Bk W ga 24 #[.slice Aa na ca, .int .i64 va.taken, .int .i64 va.known]
  b : Bk W gb 24 #[.slice Ab nb cb, .int .i64 vb.taken, .int .i64 vb.known]
  ra : Ow W lo 9 1 Aa na ca
  rb : Ow W lo 9 1 Ab nb cb
  rx : Ow W lo 26 4 X nx cx
  da : ∀ p, Aa = some p → p.block < hi ∧ p.block ≠ ga ∧ p.block ≠ gb
  db : ∀ p, Ab = some p → p.block < hi ∧ p.block ≠ ga ∧ p.block ≠ gb
  dx : ∀ p, X = some p → p.block < hi ∧ p.block ≠ ga ∧ p.block ≠ gb
  hb : lo ≤ gb ∧ gb < hi

section
variable {lo hi ga gb na ca nb cb nx cx : Nat} {V W : World} {Aa Ab X : Option Addr} {va vb : Sd}
theorem KW.set (h : KW lo hi V ga gb Aa na ca va Ab nb cb vb X nx cx W) {g : Nat} (h1 : lo ≤ g) (h2 : g < hi) (h3 : g ≠ ga) (h4 : g ≠ gb) (i : Nat) (u : Value) : KW lo hi V ga gb Aa na ca va Ab nb cb vb X nx cx (W.setCell ⟨g, i, none⟩ u) :=
  ⟨h.ex.set h1 h2 i u, h.a.far (p := ⟨g, i, none⟩) h3.symm u, h.b.far (p := ⟨g, i, none⟩) h4.symm u, h.ra.set g i u, h.rb.set g i u, h.rx.set g i u, h.da, h.db, h.dx, h.hb⟩
theorem KW.drew (h : KW lo hi V ga gb Aa na ca va Ab nb cb vb X nx cx W) : KW lo hi V ga gb Aa na ca va Ab nb cb vb X nx cx W.drew :=
  ⟨h.ex.drew, h.a, h.b, h.ra, h.rb, h.rx, h.da, h.db, h.dx, h.hb⟩
end

end Go.Proofs.Ytkklghdmnkdofaa
