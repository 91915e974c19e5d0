/- BookKeeps: rows that are written behind a mark L. -/
import Derived.Test.YtiapbgbbeakoiaaPM
import Derived.Test.YtiapbgbbeakoiaaOM
import Derived.Test.YtiapbgbbeakoiaaOW
import Derived.Test.YtiapbgbbeakoiaaD1
import Derived.Test.YtiapbgbbeakoiaaPG3
import Derived.Test.YtiapbgbbeakoiaaOG3
namespace Go.Proofs.Ytiapbgbbeakoiaa
open Go.RowKit

/-- The rows from k on, and all below L. -/
structure KR (L : Nat) (V : World) (AA : Nat → Option Addr) (nn cc : Nat → Nat) (k : Nat) (W : World) : Prop where
  bl : Below L V W
  rows : ∀ j, k ≤ j → j < 3 → Ow W L 38 5 (AA j) (nn j) (cc j)

section
variable {L k n c : Nat} {V W W' : World} {AA : Nat → Option Addr} {nn cc : Nat → Nat} {A : Option Addr} {e s : Nat}
theorem Ow.keep (h : Ow W L e s A n c) (hk : ∀ b, b < W.heap.size → W'.heap[b]? = W.heap[b]?) : Ow W' L e s A n c := by
  obtain ⟨xs, h⟩ := h
  exact ⟨xs, own_keep h fun p hp => hk _ (own_lt h p hp).2⟩
theorem Ow.keepB (h : Ow W L e s A n c) (hk : ∀ p, A = some p → W'.heap[p.block]? = W.heap[p.block]?) : Ow W' L e s A n c := by
  obtain ⟨xs, h⟩ := h
  exact ⟨xs, own_keep h hk⟩
theorem Ow.alloc (h : Ow W L e s A n c) (o : Obj) : Ow (W.alloc o) L e s A n c := by
  obtain ⟨xs, h⟩ := h
  exact ⟨xs, h.alloc o⟩
theorem Ow.blk (h : Ow W L e s A n c) : ∀ p, A = some p → L ≤ p.block ∧ p.block < W.heap.size := by
  obtain ⟨xs, h⟩ := h
  exact own_lt h
theorem KR.set (h : KR L V AA nn cc k W) {g : Nat} (hg : L ≤ g) (i : Nat) (u : Value) : KR L V AA nn cc k (W.setCell ⟨g, i, none⟩ u) :=
  ⟨Below.setCell h.bl (p := ⟨g, i, none⟩) hg u, fun j h1 h2 => (h.rows j h1 h2).set g i u⟩
/-- A row, opened. -/
theorem Ow.open (h : Ow W L e s A n c) (hn : 0 < n * s) : ∃ g, A = some ⟨g, 0, none⟩ ∧ L ≤ g ∧ g < W.heap.size ∧ ∀ i, i < n * s → (∃ u, W.cell? ⟨g, i, none⟩ = some u) ∧ W.frozen? ⟨g, i, none⟩ = false := by
  obtain ⟨g, hA, h1, h2, _, _⟩ := h.cell hn
  refine ⟨g, hA, h1, h2, fun i hi => ?_⟩
  obtain ⟨g', hA', _, _, hu, hz⟩ := h.cell hi
  have e1 : g' = g := by have := hA'.symm.trans hA; injection this with this; injection this
  subst e1
  exact ⟨hu, hz⟩
end

theorem own_empty {V : World} {base g : Nat} {e k : Nat} (h : Bk V g e #[]) (hb : base ≤ g) : V.ownsRow base e k (.slice (some ⟨g, 0, none⟩) 0 0) 0 [] :=
  ⟨by simp, .inr ⟨g, 0, #[], rfl, hb, h, Nat.le_refl _, Nat.zero_le _, by simp, by simp⟩⟩
theorem rd_blk {V : World} {g t k n : Nat} {cs : Array Value} (h : Bk V g t cs) (hn : cs.size = n * k) : Rd V (g + 1) k (some ⟨g, 0, none⟩) n cs.toList :=
  ⟨by simpa using hn, fun _ => ⟨_, rfl, by simp, World.news_of_block h⟩⟩
theorem own_ne_type {w : World} {b1 e1 s1 n c b2 e2 s2 m d : Nat} {A B : Option Addr} {xs ys : List Value} (h : w.ownsRow b1 e1 s1 (.slice A n c) n xs) (h' : w.ownsRow b2 e2 s2 (.slice B m d) m ys) (hne : e1 ≠ e2) : ∀ p, B = some p → some p.block ≠ (Value.slice A n c).ownBlock := by
  rintro p rfl he
  rcases h.2 with ⟨hv, _⟩ | ⟨g, cap, cur, hv, _, hh, _⟩
  · rw [hv] at he; cases he
  · rw [hv] at he
    have e3 : p.block = g := Option.some.inj he
    rcases h'.2 with ⟨hv', _⟩ | ⟨g', cap', cur', hv', _, hh', _⟩
    · cases hv'
    · injection hv' with hv'
      injection hv' with hv'
      subst hv'
      dsimp only at e3
      subst e3
      rw [hh] at hh'
      injection hh' with hh'
      injection hh' with _ h2 _
      exact hne h2
theorem own_ne_bk {w : World} {b1 e1 s1 n c g t : Nat} {A : Option Addr} {xs : List Value} {cs : Array Value} (h : w.ownsRow b1 e1 s1 (.slice A n c) n xs) (h' : Bk w g t cs) (hne : e1 ≠ t) : some g ≠ (Value.slice A n c).ownBlock := by
  intro he
  rcases h.2 with ⟨hv, _⟩ | ⟨g', cap, cur, hv, _, hh, _⟩
  · rw [hv] at he; cases he
  · rw [hv] at he
    have e3 : g = g' := Option.some.inj he
    subst e3
    exact (Bk.ne hh h' hne) rfl
theorem Rd.front {w : World} {B k m : Nat} {A : Option Addr} {xs ys : List Value} (h : Rd w B k A m (xs ++ ys)) {n : Nat} (hx : xs.length = n * k) (hn : n ≤ m) : Rd w B k A n xs := by
  refine ⟨hx, fun hp => ?_⟩
  rcases Nat.eq_zero_or_pos m with h0 | h0
  · omega
  obtain ⟨a, e, hb, hc⟩ := h.2 h0
  refine ⟨a, e, hb, fun j u hu => hc j u ?_⟩
  rw [List.getElem?_append_left (List.getElem?_eq_some_iff.1 hu).1]
  exact hu
theorem addL_len (l : List P.Lc) (a i q : Int) : (P.addL l a i q).1.length ≤ l.length + 1 := by
  unfold P.addL
  repeat' split
  all_goals simp [P.putQ]
  all_goals omega
theorem putL_len (l : List O.Lc) (x : O.Lc) : (O.putL l x).1.length ≤ l.length + 1 := by
  unfold O.putL
  repeat' split
  all_goals simp
  all_goals omega
theorem dropL_len (l : List O.Lc) (a i : Int) : (O.dropL l a i).1.length ≤ l.length := by
  unfold O.dropL
  split
  · simp; omega
  · simp
theorem cutL_len (l : List O.Lc) (a i q : Int) : (O.cutL l a i q).1.length ≤ l.length := by
  unfold O.cutL
  repeat' split
  all_goals simp [O.putQ]
  all_goals omega

end Go.Proofs.Ytiapbgbbeakoiaa
