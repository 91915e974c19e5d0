/- SessOnce: what Take leaves behind a region that draws. -/
import Derived.Test.YtkklghdmnkdofaaO2
namespace Go.Proofs.Ytkklghdmnkdofaa
open Go.RowKit

/-- Behind Take. -/
def TookAt (V1 : World) (r : TakeR) (p m l e : Value) (wx : World) : Prop :=
  ∃ g A' c' X d, p = .pointer (some ⟨g, 0, none⟩) ∧ m = .string r.m ∧ l = .slice X r.l.length d ∧ e = .int .i64 r.e ∧ V1.heap.size ≤ g ∧
    (wx.cell? ⟨g, 0, none⟩ = some (.slice A' r.s.sent.length c') ∧ wx.cell? ⟨g, 1, none⟩ = some (.int .i64 r.s.taken) ∧ wx.cell? ⟨g, 2, none⟩ = some (.int .i64 r.s.known)) ∧
    wx.ownsRow V1.heap.size 9 1 (.slice A' r.s.sent.length c') r.s.sent.length (r.s.sent.map Value.string) ∧ wx.ownsRow V1.heap.size 26 4 (.slice X r.l.length d) r.l.length (frs r.l) ∧ Below V1.heap.size V1 wx
section
variable {V1 w2 : World} {r : TakeR} {A' X : Option Addr} {c' d Bz g : Nat}
theorem took1 (ho : w2.ownsRow Bz 9 1 (.slice A' r.s.sent.length c') r.s.sent.length (r.s.sent.map Value.string)) (hx : w2.ownsRow Bz 26 4 (.slice X r.l.length d) r.l.length (frs r.l)) (hz : V1.heap.size ≤ Bz) (hb : Below V1.heap.size V1 w2) :
    TookAt V1 r (.pointer (some ⟨w2.heap.size, 0, none⟩)) (.string r.m) (.slice X r.l.length d) (.int .i64 r.e) (w2.alloc (.cells #[.slice A' r.s.sent.length c', .int .i64 r.s.taken, .int .i64 r.s.known] 24)) :=
  ⟨_, A', c', X, d, rfl, rfl, rfl, rfl, hb.size, (Bk.new _ _ _).three', (own_mono ho hz).alloc _, (own_mono hx hz).alloc _, hb.alloc hb.size _⟩
theorem took2 (ho : w2.ownsRow Bz 9 1 (.slice A' r.s.sent.length c') r.s.sent.length (r.s.sent.map Value.string)) (hx : w2.ownsRow Bz 26 4 (.slice X r.l.length d) r.l.length (frs r.l)) (hz : V1.heap.size ≤ Bz) (hb : Below V1.heap.size V1 w2)
    (hk : Bk w2 g 24 #[.slice none 0 0, .int .i64 0, .int .i64 0]) (h1 : V1.heap.size ≤ g) (h2 : g < Bz) :
    TookAt V1 r (.pointer (some ⟨g, 0, none⟩)) (.string r.m) (.slice X r.l.length d) (.int .i64 r.e) (((w2.setCell ⟨g, 0, none⟩ (.slice A' r.s.sent.length c')).setCell ⟨g, 1, none⟩ (.int .i64 r.s.taken)).setCell ⟨g, 2, none⟩ (.int .i64 r.s.known)) :=
  ⟨_, A', c', X, d, rfl, rfl, rfl, rfl, h1, (set3_cells hk _ _ _).three', own_mono (ownsRow_setCell_below (ownsRow_setCell_below (ownsRow_setCell_below ho (a := ⟨g, 0, none⟩) h2 _) (a := ⟨g, 1, none⟩) h2 _) (a := ⟨g, 2, none⟩) h2 _) hz,
    own_mono (ownsRow_setCell_below (ownsRow_setCell_below (ownsRow_setCell_below hx (a := ⟨g, 0, none⟩) h2 _) (a := ⟨g, 1, none⟩) h2 _) (a := ⟨g, 2, none⟩) h2 _) hz,
    Below.setCell (Below.setCell (Below.setCell hb (p := ⟨g, 0, none⟩) h1 _) (p := ⟨g, 1, none⟩) h1 _) (p := ⟨g, 2, none⟩) h1 _⟩
end
theorem frs_one (l : List Fr) : ∀ u ∈ frs l, u.oneCell' = true := fun u hu => by
  simp only [frs, List.mem_flatMap] at hu
  obtain ⟨f, _, hf⟩ := hu
  exact cells_one f u hf
/-- Take with the base of its rows named. -/
theorem take_two (A : Option Addr) (n c : Nat) (s : Sd) (f : Fr) (w : World) (hnm : n ≤ maxLen) (hr : Rd w w.heap.size 1 A n (s.sent.map Value.string)) (r : TakeR) (hrr : takeS s f = r) :
    Calls Try.prog 10 #[sideVal (.slice A n c) s, f.val] w fun e w' => ∃ A' c' X d, e = .returned (.tuple #[.agg #[.slice A' r.s.sent.length c', .int .i64 r.s.taken, .int .i64 r.s.known], .string r.m, .slice X r.l.length d, .int .i64 r.e]) ∧
      (∃ B, B = w.heap.size ∧ w'.ownsRow B 9 1 (.slice A' r.s.sent.length c') r.s.sent.length (r.s.sent.map Value.string) ∧ w'.ownsRow B 26 4 (.slice X r.l.length d) r.l.length (frs r.l)) ∧ Below w.heap.size w w' := by
  subst hrr
  refine (take_any A n c s f w hnm hr).mono ?_
  rintro e w' ⟨A2, c2, X2, d2, rfl, _, _, _, _, ho, hx, hb⟩
  exact ⟨A2, c2, X2, d2, rfl, ⟨_, rfl, ho, hx⟩, hb⟩

section
variable {w : World} {G i : Nat} {x y : ED}
theorem Two.cellC (h : Two w G i x y) (hi : i < 2) {W4 : World} (hg : w.grownBy W4 (Value.slice x.C x.g.length x.m).ownBlock) :
    W4.cell? ⟨G + 1 + 1, i, none⟩ = some (.slice x.C x.g.length x.m) ∧ W4.frozen? ⟨G + 1 + 1, i, none⟩ = false ∧ G + 1 + 1 < W4.heap.size := by
  have hlt := h.lt
  have nr : some (G + 1 + 1) ≠ (Value.slice x.C x.g.length x.m).ownBlock := fun e => by
    have := (h.xC.lt (G + 1 + 1) e.symm).1
    omega
  have hb := hg.block (G + 1 + 1) hlt nr
  obtain ⟨_, _, q, _, _, z⟩ := h.cells hi
  refine ⟨?_, ?_, Nat.lt_of_lt_of_le hlt hg.size⟩
  · rw [World.cell?_of_block (w := w) hb]; exact q
  · rw [World.frozen?_of_block (w := w) hb]; exact z
theorem Two.addC (h : Two w G i x y) (hi : i < 2) {W4 : World} {C' : Option Addr} {m' n' : Nat} {b : ByteArray} (hg : w.grownBy W4 (Value.slice x.C x.g.length x.m).ownBlock)
    (ho : W4.ownsRow (G + 1 + 1 + 1) 9 1 (.slice C' n' m') n' (x.g.map Value.string ++ [.string b])) (hn : n' = x.g.length + 1)
    (hat : (Value.slice C' n' m').ownBlock = (Value.slice x.C x.g.length x.m).ownBlock ∨ ∀ p, C' = some p → w.heap.size ≤ p.block) :
    Two (W4.setCell ⟨G + 1 + 1, i, none⟩ (.slice C' n' m')) G i ⟨x.A, x.c, x.s, x.B, x.d, x.u, C', m', x.g ++ [b]⟩ y := by
  have hln : (x.g ++ [b]).length = n' := by simp [hn]
  have h2 := h.putC (w' := W4) (C' := C') (m' := m') (l := x.g ++ [b]) hi hg (by rw [hln]; simpa using ho) (by rw [hln]; exact hat)
  rw [hln] at h2
  exact h2
theorem rd_text {W : World} {g : Nat} {m : ByteArray} (h : Bk W g 9 #[.string m]) : Rd W (g + 1) 1 (some ⟨g, 0, none⟩) 1 [.string m] :=
  ⟨rfl, fun _ => ⟨_, rfl, by simp, World.news_of_block h⟩⟩
end

theorem own_empty4 {V : World} {base g : Nat} (h : Bk V g 26 #[]) (hb : base ≤ g) : V.ownsRow base 26 4 (.slice (some ⟨g, 0, none⟩) 0 0) 0 [] :=
  ⟨by simp, .inr ⟨g, 0, #[], rfl, hb, h, Nat.le_refl _, Nat.zero_le _, by simp, by simp⟩⟩
theorem frs_split (l : List Fr) (q : Nat) : frs l = frs (l.take q) ++ frs (l.drop q) := by rw [← frs_append, List.take_append_drop]
theorem Rd.take {w : World} {B n : Nat} {A : Option Addr} {l : List Fr} (h : Rd w B 4 A n (frs l)) {q : Nat} (hq : q ≤ n) : Rd w B 4 A q (frs (l.take q)) := by
  have hl : l.length = n := by have := h.1; rw [frs_len] at this; omega
  refine ⟨by rw [frs_len, List.length_take]; omega, fun hp => ?_⟩
  obtain ⟨a, hA, hb, hc⟩ := h.2 (by omega)
  refine ⟨a, hA, hb, fun j u hu => hc j u ?_⟩
  rw [frs_split l q, List.getElem?_append_left (List.getElem?_eq_some_iff.1 hu).1]
  exact hu
theorem Rd.drop {w : World} {B n : Nat} {a : Addr} {l : List Fr} (h : Rd w B 4 (some a) n (frs l)) {q : Nat} (hq : q ≤ n) : Rd w B 4 (some (a.add (q * 4))) (n - q) (frs (l.drop q)) := by
  have hl : l.length = n := by have := h.1; rw [frs_len] at this; omega
  refine ⟨by rw [frs_len, List.length_drop]; omega, fun hp => ?_⟩
  obtain ⟨a', hA, hb, hc⟩ := h.2 (by omega)
  injection hA with hA
  subst hA
  refine ⟨_, rfl, by rw [add_block]; exact hb, fun j u hu => ?_⟩
  rw [add_add']
  refine hc _ u ?_
  have hlen : (frs (l.take q)).length = q * 4 := by rw [frs_len, List.length_take, Nat.min_eq_left (by omega)]
  rw [frs_split l q, List.getElem?_append_right (by omega), hlen, show q * 4 + j - q * 4 = j by omega]
  exact hu

theorem lose_below {V w : World} {o : Obj} (h : (V.alloc o).grownBy w (some V.heap.size)) : Below V.heap.size V w :=
  ((Below.refl _ V).alloc (Nat.le_refl _) o).grown h (by simp) (fun k hk => by injection hk with hk; omega)

end Go.Proofs.Ytkklghdmnkdofaa
