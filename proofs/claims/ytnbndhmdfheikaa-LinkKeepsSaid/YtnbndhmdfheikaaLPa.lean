/- LinkKeeps: rows that are written, and what stays. By gen_lpa.py. -/
import Derived.Test.YtnbndhmdfheikaaLOw
namespace Go.Proofs.Ytnbndhmdfheikaa
open Go.RowKit

/-- A row of its own, whatever it holds. -/
def Ow (w : World) (base e k : Nat) (A : Option Addr) (n c : Nat) : Prop := ∃ xs, w.ownsRow base e k (.slice A n c) n xs

section
variable {w w' V W : World} {base e k n c lo hi : Nat} {A : Option Addr}

theorem Ow.of {xs : List Value} (h : w.ownsRow base e k (.slice A n c) n xs) : Ow w base e k A n c := ⟨xs, h⟩

theorem Ow.set (h : Ow w base e k A n c) (g i : Nat) (u : Value) : Ow (w.setCell ⟨g, i, none⟩ u) base e k A n c := by
  obtain ⟨xs, hl, h⟩ := h
  rcases h with ⟨hv, h0⟩ | ⟨b, cap, cur, hv, hb, hh, h1, h2, h3, h4⟩
  · injection hv with a1 a2 a3
    subst a1 a2 a3
    exact ⟨[], by simp, .inl ⟨rfl, rfl⟩⟩
  · by_cases hg : b = g
    · subst hg
      have hB : Bk w b e cur := hh
      refine ⟨(cur.setIfInBounds i u).toList.take (n * k), ?_, .inr ⟨b, cap, _, hv, hb, hB.set i u, h1, h2, by simp [h3], rfl⟩⟩
      have hm : n * k ≤ cap * k := Nat.mul_le_mul_right k h1
      simp only [List.length_take, Array.length_toList, Array.size_setIfInBounds]
      omega
    · have hB : Bk w b e cur := hh
      exact ⟨xs, hl, .inr ⟨b, cap, cur, hv, hb, hB.far (p := ⟨g, i, none⟩) hg u, h1, h2, h3, h4⟩⟩

/-- Its cells are there and may be written. -/
theorem Ow.cell (h : Ow w base e k A n c) {j : Nat} (hj : j < n * k) : ∃ g, A = some ⟨g, 0, none⟩ ∧ base ≤ g ∧ g < w.heap.size ∧ (∃ u, w.cell? ⟨g, j, none⟩ = some u) ∧ w.frozen? ⟨g, j, none⟩ = false := by
  obtain ⟨xs, hl, h⟩ := h
  rcases h with ⟨hv, h0⟩ | ⟨b, cap, cur, hv, hb, hh, h1, h2, h3, h4⟩
  · subst h0
    simp at hj
  · injection hv with a1 a2 a3
    have hB : Bk w b e cur := hh
    refine ⟨b, a1, hb, hB.lt, ?_, hB.frozen j⟩
    have hm : n * k ≤ cap * k := Nat.mul_le_mul_right k h1
    have hs : j < cur.size := by omega
    exact ⟨cur[j], by rw [hB.cell]; simp [hs]⟩

/-- All is as it was but the blocks from lo to hi. -/
structure Ex (lo hi : Nat) (V W : World) : Prop where
  os : W.os = V.os
  tape : W.tape = V.tape
  output : W.output = V.output
  size : V.heap.size ≤ W.heap.size
  block : ∀ b, b < V.heap.size → (b < lo ∨ hi ≤ b) → W.heap[b]? = V.heap[b]?

theorem Ex.refl (V : World) : Ex lo hi V V := ⟨rfl, rfl, rfl, Nat.le_refl _, fun _ _ _ => rfl⟩
theorem Ex.drew (h : Ex lo hi V W) : Ex lo hi V W.drew := ⟨h.os, h.tape, h.output, h.size, h.block⟩
theorem Ex.alloc (h : Ex lo hi V W) (o : Obj) : Ex lo hi V (W.alloc o) :=
  ⟨h.os, h.tape, h.output, Nat.le_trans h.size (by simp), fun b hb hr => (Below.heap_alloc W o b (Nat.lt_of_lt_of_le hb h.size)).trans (h.block b hb hr)⟩
theorem Ex.set (h : Ex lo hi V W) {g : Nat} (h1 : lo ≤ g) (h2 : g < hi) (i : Nat) (u : Value) : Ex lo hi V (W.setCell ⟨g, i, none⟩ u) :=
  ⟨h.os, h.tape, h.output, by simpa [World.setCell] using h.size, fun b hb hr => (Below.heap_setCell W ⟨g, i, none⟩ u b (by simp only; omega)).trans (h.block b hb hr)⟩
theorem Ex.below {B : Nat} (h : Ex lo hi V W) (hb : Below B W w') (hB : V.heap.size ≤ B) : Ex lo hi V w' :=
  ⟨hb.os.trans h.os, hb.tape.trans h.tape, hb.output.trans h.output, Nat.le_trans h.size hb.size, fun b hb' hr => (hb.block b (by omega)).trans (h.block b hb' hr)⟩
theorem Ex.grown {row : Option Nat} (h : Ex lo hi V W) (hg : W.grownBy w' row) (hr : ∀ g, row = some g → lo ≤ g ∧ g < hi) : Ex lo hi V w' :=
  ⟨hg.os.trans h.os, hg.tape.trans h.tape, hg.output.trans h.output, Nat.le_trans h.size hg.size, fun b hb hr' => (hg.block b (Nat.lt_of_lt_of_le hb h.size) (fun e => by have := hr b e.symm; omega)).trans (h.block b hb hr')⟩
theorem Ex.bk (h : Ex lo hi V W) {g : Nat} {t : TypeId} {cs : Array Value} (hb : Bk V g t cs) (hr : g < lo ∨ hi ≤ g) : Bk W g t cs := (h.block g hb.lt hr).trans hb
theorem Ex.own (h : Ex lo hi V W) {xs : List Value} (ho : V.ownsRow base e k (.slice A n c) n xs) (hr : ∀ p, A = some p → p.block < lo ∨ hi ≤ p.block) : W.ownsRow base e k (.slice A n c) n xs :=
  own_keep ho fun p hp => h.block p.block (own_lt ho p hp).2 (hr p hp)
theorem Ex.rd {xs : List Value} {B : Nat} (h : Ex lo hi V W) (hr : Rd V B k A n xs) (h1 : B ≤ lo) (h2 : B ≤ V.heap.size) : Rd W B k A n xs :=
  hr.of_cells fun p hp => World.cell?_of_block (h.block p.block (by omega) (.inl (by omega)))
theorem Ex.toBelow {B : Nat} (h : Ex lo hi V W) (hb : Below B w V) (h1 : B ≤ lo) (h2 : B ≤ V.heap.size) : Below B w W :=
  ⟨h.os.trans hb.os, h.tape.trans hb.tape, h.output.trans hb.output, Nat.le_trans hb.size h.size, fun b hb' => (h.block b (by omega) (.inl (by omega))).trans (hb.block b hb')⟩
end

/-- The variable a and the rows that are written. -/
structure KW (lo hi : Nat) (V : World) (ga : Nat) (Aa : Option Addr) (na ca : Nat) (tk kn : Int) (X : Option Addr) (nx cx : Nat) (Ac : Option Addr) (nc cc : Nat) (W : World) : Prop where
  ex : Ex lo hi V W
  a : Bk W ga 33 #[.slice Aa na ca, .int .i64 tk, .int .i64 kn]
  ra : Ow W lo 9 1 Aa na ca
  rx : Ow W lo 44 4 X nx cx
  rc : Ow W lo 9 1 Ac nc cc
  da : ∀ p, Aa = some p → p.block < hi ∧ p.block ≠ ga
  dx : ∀ p, X = some p → p.block < hi ∧ p.block ≠ ga
  dc : ∀ p, Ac = some p → p.block < hi ∧ p.block ≠ ga

section
variable {lo hi ga na ca nx cx nc cc : Nat} {V W W' : World} {Aa X Ac : Option Addr} {tk kn : Int}
theorem KW.set (h : KW lo hi V ga Aa na ca tk kn X nx cx Ac nc cc W) {g : Nat} (h1 : lo ≤ g) (h2 : g < hi) (h3 : g ≠ ga) (i : Nat) (u : Value) : KW lo hi V ga Aa na ca tk kn X nx cx Ac nc cc (W.setCell ⟨g, i, none⟩ u) :=
  ⟨h.ex.set h1 h2 i u, h.a.far (p := ⟨g, i, none⟩) h3.symm u, h.ra.set g i u, h.rx.set g i u, h.rc.set g i u, h.da, h.dx, h.dc⟩
theorem KW.drew (h : KW lo hi V ga Aa na ca tk kn X nx cx Ac nc cc W) : KW lo hi V ga Aa na ca tk kn X nx cx Ac nc cc W.drew :=
  ⟨h.ex.drew, h.a, h.ra, h.rx, h.rc, h.da, h.dx, h.dc⟩
theorem Ow.keep {base e k n c : Nat} {A : Option Addr} (h : Ow W base e k A n c) (hk : ∀ b, b < W.heap.size → W'.heap[b]? = W.heap[b]?) : Ow W' base e k A n c := by
  obtain ⟨xs, h⟩ := h
  exact ⟨xs, own_keep h fun p hp => hk _ (own_lt h p hp).2⟩
theorem Ow.len {base e k n c : Nat} {A : Option Addr} (h : Ow W base e k A n c) : n ≤ 2 ^ 63 - 1 := by
  obtain ⟨xs, h⟩ := h
  obtain ⟨_, _, e, h1, h2⟩ := own_form h
  injection e with _ _ e
  subst e
  unfold maxLen at h2
  omega
theorem add_zero (g j : Nat) : (⟨g, 0, none⟩ : Addr).add j = ⟨g, j, none⟩ := by
  unfold Addr.add
  split
  · simp_all
  · simp
theorem Ex.toL (h : Ex lo hi V W) (hl : lo ≤ V.heap.size) : Below lo V W :=
  ⟨h.os, h.tape, h.output, h.size, fun b hb => h.block b (by omega) (.inl hb)⟩
theorem KW.cellA (h : KW lo hi V ga Aa na ca tk kn X nx cx Ac nc cc W) {j : Nat} (hj : j < na) : ∃ a u, Aa = some a ∧ W.cell? (a.add j) = some u ∧ W.frozen? (a.add j) = false ∧ (a.add j).block < W.heap.size ∧ ∀ v, KW lo hi V ga Aa na ca tk kn X nx cx Ac nc cc (W.setCell (a.add j) v) := by
  obtain ⟨g, hA, h1, h2, ⟨u, hu⟩, hz⟩ := h.ra.cell (j := j) (by omega)
  obtain ⟨d1, d2⟩ := h.da _ hA
  refine ⟨_, u, hA, ?_, ?_, ?_, fun v => ?_⟩ <;> rw [add_zero]
  · exact hu
  · exact hz
  · exact h2
  · exact h.set h1 d1 d2 j v
theorem KW.cellC (h : KW lo hi V ga Aa na ca tk kn X nx cx Ac nc cc W) {j : Nat} (hj : j < nc) : ∃ a u, Ac = some a ∧ W.cell? (a.add j) = some u ∧ W.frozen? (a.add j) = false ∧ (a.add j).block < W.heap.size ∧ ∀ v, KW lo hi V ga Aa na ca tk kn X nx cx Ac nc cc (W.setCell (a.add j) v) := by
  obtain ⟨g, hA, h1, h2, ⟨u, hu⟩, hz⟩ := h.rc.cell (j := j) (by omega)
  obtain ⟨d1, d2⟩ := h.dc _ hA
  refine ⟨_, u, hA, ?_, ?_, ?_, fun v => ?_⟩ <;> rw [add_zero]
  · exact hu
  · exact hz
  · exact h2
  · exact h.set h1 d1 d2 j v
theorem KW.cellX (h : KW lo hi V ga Aa na ca tk kn X nx cx Ac nc cc W) {j : Nat} (hj : j < nx) : ∃ a u0 u1 u2 u3, X = some a ∧
    (W.cell? (a.add (j * 4)) = some u0 ∧ W.cell? ⟨(a.add (j * 4)).block, (a.add (j * 4)).off + 1, none⟩ = some u1 ∧ W.cell? ⟨(a.add (j * 4)).block, (a.add (j * 4)).off + 2, none⟩ = some u2 ∧ W.cell? ⟨(a.add (j * 4)).block, (a.add (j * 4)).off + 3, none⟩ = some u3) ∧
    (W.frozen? (a.add (j * 4)) = false ∧ W.frozen? ⟨(a.add (j * 4)).block, (a.add (j * 4)).off + 1, none⟩ = false ∧ W.frozen? ⟨(a.add (j * 4)).block, (a.add (j * 4)).off + 2, none⟩ = false ∧ W.frozen? ⟨(a.add (j * 4)).block, (a.add (j * 4)).off + 3, none⟩ = false) ∧
    ((∀ v0, (W.setCell (a.add (j * 4)) v0).cell? ⟨(a.add (j * 4)).block, (a.add (j * 4)).off + 1, none⟩ = some u1) ∧ (∀ v0, (W.setCell (a.add (j * 4)) v0).frozen? ⟨(a.add (j * 4)).block, (a.add (j * 4)).off + 1, none⟩ = false) ∧ (∀ v0 v1, ((W.setCell (a.add (j * 4)) v0).setCell ⟨(a.add (j * 4)).block, (a.add (j * 4)).off + 1, none⟩ v1).cell? ⟨(a.add (j * 4)).block, (a.add (j * 4)).off + 2, none⟩ = some u2) ∧ (∀ v0 v1, ((W.setCell (a.add (j * 4)) v0).setCell ⟨(a.add (j * 4)).block, (a.add (j * 4)).off + 1, none⟩ v1).frozen? ⟨(a.add (j * 4)).block, (a.add (j * 4)).off + 2, none⟩ = false) ∧ (∀ v0 v1 v2, (((W.setCell (a.add (j * 4)) v0).setCell ⟨(a.add (j * 4)).block, (a.add (j * 4)).off + 1, none⟩ v1).setCell ⟨(a.add (j * 4)).block, (a.add (j * 4)).off + 2, none⟩ v2).cell? ⟨(a.add (j * 4)).block, (a.add (j * 4)).off + 3, none⟩ = some u3) ∧ (∀ v0 v1 v2, (((W.setCell (a.add (j * 4)) v0).setCell ⟨(a.add (j * 4)).block, (a.add (j * 4)).off + 1, none⟩ v1).setCell ⟨(a.add (j * 4)).block, (a.add (j * 4)).off + 2, none⟩ v2).frozen? ⟨(a.add (j * 4)).block, (a.add (j * 4)).off + 3, none⟩ = false)) ∧
    (a.add (j * 4)).block < W.heap.size ∧ ∀ v0 v1 v2 v3, KW lo hi V ga Aa na ca tk kn X nx cx Ac nc cc ((((W.setCell (a.add (j * 4)) v0).setCell ⟨(a.add (j * 4)).block, (a.add (j * 4)).off + 1, none⟩ v1).setCell ⟨(a.add (j * 4)).block, (a.add (j * 4)).off + 2, none⟩ v2).setCell ⟨(a.add (j * 4)).block, (a.add (j * 4)).off + 3, none⟩ v3) := by
  obtain ⟨g, hA, h1, h2, ⟨u0, hu0⟩, hz0⟩ := h.rx.cell (j := j * 4) (by omega)
  obtain ⟨g1, hA1, _, _, ⟨u1, hu1⟩, hz1⟩ := h.rx.cell (j := j * 4 + 1) (by omega)
  obtain ⟨g2, hA2, _, _, ⟨u2, hu2⟩, hz2⟩ := h.rx.cell (j := j * 4 + 2) (by omega)
  obtain ⟨g3, hA3, _, _, ⟨u3, hu3⟩, hz3⟩ := h.rx.cell (j := j * 4 + 3) (by omega)
  have e1 : g1 = g := by have := hA1.symm.trans hA; injection this with this; injection this
  have e2 : g2 = g := by have := hA2.symm.trans hA; injection this with this; injection this
  have e3 : g3 = g := by have := hA3.symm.trans hA; injection this with this; injection this
  subst e1 e2 e3
  obtain ⟨d1, d2⟩ := h.dx _ hA
  refine ⟨_, u0, u1, u2, u3, hA, ?_, ?_, ?_, ?_, fun v0 v1 v2 v3 => ?_⟩ <;> rw [add_zero]
  · exact ⟨hu0, hu1, hu2, hu3⟩
  · exact ⟨hz0, hz1, hz2, hz3⟩
  · dsimp only
    refine ⟨fun v0 => ?_, fun v0 => ?_, fun v0 v1 => ?_, fun v0 v1 => ?_, fun v0 v1 v2 => ?_, fun v0 v1 v2 => ?_⟩
    · rw [World.cell?_setCell_other _ _ _ _ (by simp)]; exact hu1
    · rw [World.frozen?_setCell]; exact hz1
    · rw [World.cell?_setCell_other _ _ _ _ (by simp), World.cell?_setCell_other _ _ _ _ (by simp)]; exact hu2
    · rw [World.frozen?_setCell, World.frozen?_setCell]; exact hz2
    · rw [World.cell?_setCell_other _ _ _ _ (by simp), World.cell?_setCell_other _ _ _ _ (by simp), World.cell?_setCell_other _ _ _ _ (by simp)]; exact hu3
    · rw [World.frozen?_setCell, World.frozen?_setCell, World.frozen?_setCell]; exact hz3
  · exact h2
  · exact (((h.set h1 d1 d2 _ v0).set h1 d1 d2 _ v1).set h1 d1 d2 _ v2).set h1 d1 d2 _ v3
end

/-- The other link, which nobody touches. -/
def Other (B bo : Nat) (R : Nat → Option Addr) (wr : World) : Prop := LinkAt bo bo st0 (fun _ => none) (fun _ => 0) wr ∧ ¬ inLink B R bo
/-- Both links. -/
def TwoL (B bo : Nat) (st : Lk) (R : Nat → Option Addr) (C : Nat → Nat) (w wr : World) : Prop := LinkSt B st R C w wr ∧ Other B bo R wr
theorem TwoL.over {B bo : Nat} {st : Lk} {R : Nat → Option Addr} {C : Nat → Nat} {w V W : World} (h : TwoL B bo st R C w V) (hb : Below V.heap.size V W) : TwoL B bo st R C w W :=
  ⟨h.1.over hb, h.2.1.over hb, h.2.2⟩
theorem LinkAt.none_block {bo : Nat} {wr W : World} (h : LinkAt bo bo st0 (fun _ => none) (fun _ => 0) wr) (hk : W.heap[bo]? = wr.heap[bo]?) : LinkAt bo bo st0 (fun _ => none) (fun _ => 0) W :=
  h.same fun b hb => by
    rcases hb with rfl | ⟨j, p, _, hp, _⟩
    · exact hk
    · cases hp
theorem TwoL.lout {B bo : Nat} {st st' : Lk} {R : Nat → Option Addr} {C : Nat → Nat} {w V W : World} (h : TwoL B bo st R C w V) (hk : LOut B B R V st' W) : ∃ R' C', TwoL B bo st' R' C' w W := by
  obtain ⟨⟨h1, h2, h3⟩, h4, h5⟩ := h
  obtain ⟨R', C', k1, k2⟩ := hk
  refine ⟨R', C', ⟨k1, h2.trans (k2.below h1 h3), Nat.le_trans h3 k2.size⟩, h4.none_block (k2.block bo h4.bk.lt h5), fun hi => ?_⟩
  rcases k2.fresh bo hi with h6 | h6
  · exact h5 h6
  · have := h4.bk.lt
    omega
theorem TwoL.ex {B bo lo hi : Nat} {st : Lk} {R : Nat → Option Addr} {C : Nat → Nat} {w V W : World} (h : TwoL B bo st R C w V) (he : Ex lo hi V W) (h1 : ∀ b, inLink B R b → b < lo) (h2 : bo < lo) (h3 : B ≤ lo) (h4 : lo ≤ V.heap.size) : TwoL B bo st R C w W := by
  have hb := he.toL h4
  have hz := he.size
  refine ⟨⟨h.1.1.same fun b hi => hb.block b (h1 b hi), h.1.2.1.trans (hb.mono h3), Nat.le_trans h.1.2.2 hz⟩, h.2.1.none_block (hb.block bo h2), h.2.2⟩
theorem two_new (W : World) : Calls Try.prog 9 #[] W fun e V => e = .returned (.pointer (some ⟨W.heap.size, 0, none⟩)) ∧ LinkAt W.heap.size W.heap.size st0 (fun _ => none) (fun _ => 0) V ∧ Below W.heap.size W V := new_any W
theorem two_start {w V W : World} (h1 : LinkAt w.heap.size w.heap.size st0 (fun _ => none) (fun _ => 0) V) (hb1 : Below w.heap.size w V) (h2 : LinkAt V.heap.size V.heap.size st0 (fun _ => none) (fun _ => 0) W) (hb2 : Below V.heap.size V W) :
    TwoL w.heap.size V.heap.size st0 (fun _ => none) (fun _ => 0) w W := by
  refine ⟨⟨h1.over hb2, hb1.trans (hb2.mono hb1.size), Nat.le_trans hb1.size hb2.size⟩, h2, fun hi => ?_⟩
  have := (h1.blocks _ hi).2
  omega

/-- The answers about an end, whichever. -/
theorem w_side (B : Nat) (st : Lk) (R : Nat → Option Addr) (C : Nat → Nat) (who : Nat) (hw : who = 0 ∨ who = 1) (hi : Inv st) (V : World) (hl : LinkAt B B st R C V) : Calls Try.prog 12 #[.pointer (some ⟨B, 0, none⟩), .int .i64 (who : Int)] V (OwnSide V (st.e who)) := by
  rcases hw with rfl | rfl
  · exact side_0 B B st R C V hl (by have := hi.1.sent; omega)
  · exact side_1 B B st R C V hl (by have := hi.2.sent; omega)
theorem w_under (B : Nat) (st : Lk) (R : Nat → Option Addr) (C : Nat → Nat) (who : Nat) (hw : who = 0 ∨ who = 1) (hi : Inv st) (V : World) (hl : LinkAt B B st R C V) : Calls Try.prog 15 #[.pointer (some ⟨B, 0, none⟩), .int .i64 (who : Int)] V (OwnFrs V (st.u who)) := by
  rcases hw with rfl | rfl
  · exact under_0 B B st R C V hl hi.fits.u0
  · exact under_1 B B st R C V hl hi.fits.u1
theorem w_got (B : Nat) (st : Lk) (R : Nat → Option Addr) (C : Nat → Nat) (who : Nat) (hw : who = 0 ∨ who = 1) (hi : Inv st) (V : World) (hl : LinkAt B B st R C V) : Calls Try.prog 11 #[.pointer (some ⟨B, 0, none⟩), .int .i64 (who : Int)] V (OwnStrs V (st.g who).length (st.g who)) := by
  rcases hw with rfl | rfl
  · exact got_0 B B st R C V hl (by have := hi.fits.g0; omega)
  · exact got_1 B B st R C V hl (by have := hi.fits.g1; omega)

end Go.Proofs.Ytnbndhmdfheikaa
