/- SessKeeps: what stays through the whole call. -/
import Derived.Test.YtkklghdmnkdofaaH0
import Derived.Test.YtkklghdmnkdofaaH1
import Derived.Test.YtkklghdmnkdofaaL0
namespace Go.Proofs.Ytkklghdmnkdofaa
open Go.RowKit

/-- What lies below L and is not written: the end and the frame that came in, the copy. -/
structure KP (w : World) (L gs gm : Nat) (A : Option Addr) (n c : Nat) (s : Sd) (f : Fr) (Am : Option Addr) (cm : Nat) (V : World) : Prop where
  hs : Bk V gs 24 #[.slice A n c, .int .i64 s.taken, .int .i64 s.known]
  hf : Bk V (gs + 1) 26 #[.int .i64 f.kind, .int .i64 f.num, .int .i64 f.taken, .string f.body]
  hm : Bk V gm 24 #[.slice Am n cm, .int .i64 s.taken, .int .i64 s.known]
  rs : Rd V gs 1 A n (s.sent.map Value.string)
  om : V.ownsRow gs 9 1 (.slice Am (n + 2) cm) (n + 2) (s.sent.map Value.string ++ [.string ⟨#[120]⟩, .string ⟨#[121]⟩])
  bl : Below gs w V
  l1 : gs + 1 < L
  l2 : gm < L
  l3 : ∀ p, Am = some p → p.block < L
  l4 : L ≤ V.heap.size

section
variable {w V W : World} {L gs gm n c cm : Nat} {A Am : Option Addr} {s : Sd} {f : Fr}
theorem KP.below (h : KP w L gs gm A n c s f Am cm V) (hb : Below L V W) : KP w L gs gm A n c s f Am cm W := by
  have h1 := h.l1
  refine ⟨h.hs.below hb (by omega), h.hf.below hb h1, h.hm.below hb h.l2, h.rs.of_cells fun p hp => hb.cell (by omega), own_keep h.om fun p hp => hb.block _ (h.l3 p hp), h.bl.trans (hb.mono (by omega)), h1, h.l2, h.l3, Nat.le_trans h.l4 hb.size⟩

theorem Rd.front {B k m : Nat} {xs ys : List Value} (h : Rd V B k A m (xs ++ ys)) {n : Nat} (hx : xs.length = n * k) (hn : n ≤ m) : Rd V B k A n xs := by
  refine ⟨hx, fun hp => ?_⟩
  obtain ⟨a, e, hb, hc⟩ := h.2 (by omega)
  refine ⟨a, e, hb, fun j u hu => hc j u ?_⟩
  rw [List.getElem?_append_left (List.getElem?_eq_some_iff.1 hu).1]
  exact hu

/-- The copy reads as the end that came in. -/
theorem KP.rm (h : KP w L gs gm A n c s f Am cm V) : Rd V V.heap.size 1 Am n (s.sent.map Value.string) :=
  (Rd.of_own h.om).front (by have := h.rs.1; simpa using this) (by omega)
theorem KP.rs' (h : KP w L gs gm A n c s f Am cm V) : Rd V V.heap.size 1 A n (s.sent.map Value.string) :=
  h.rs.mono (by have := h.l1; have := h.l4; omega)
/-- The two places behind it. -/
theorem KP.xy (h : KP w L gs gm A n c s f Am cm V) : ∃ a, Am = some a ∧ V.cell? (a.add n) = some (.string ⟨#[120]⟩) ∧ V.cell? ⟨a.block, a.off + (n + 1), none⟩ = some (.string ⟨#[121]⟩) := by
  have hl : s.sent.length = n := by have := h.rs.1; simpa using this
  obtain ⟨a, e, _, h1⟩ := (Rd.of_own h.om).cell (j := n) (u := .string ⟨#[120]⟩) (by rw [List.getElem?_append_right (by simp [hl])]; simp [hl])
  obtain ⟨a', e', _, h2⟩ := (Rd.of_own h.om).cell (j := n + 1) (u := .string ⟨#[121]⟩) (by rw [List.getElem?_append_right (by simp [hl])]; simp [hl])
  have : a' = a := Option.some.inj (e'.symm.trans e)
  subst this
  exact ⟨a', e, h1, by simpa [Addr.add] using h2⟩
theorem KP.hc (h : KP w L gs gm A n c s f Am cm V) : n + 2 ≤ cm ∧ cm ≤ maxLen := by
  obtain ⟨_, _, e, h1, h2⟩ := own_form h.om
  injection e with _ _ e
  subst e
  exact ⟨h1, h2⟩
end
theorem Ex.toL {lo hi : Nat} {V W : World} (h : Ex lo hi V W) (hl : lo ≤ V.heap.size) : Below lo V W :=
  ⟨h.os, h.tape, h.output, h.size, fun b hb => h.block b (by omega) (.inl hb)⟩

section
variable {lo hi ga gb na ca nb cb nx cx : Nat} {V W W' : World} {Aa Ab X : Option Addr} {va vb : Sd}
theorem Ow.keep {base e k n c : Nat} {A : Option Addr} (h : Ow W base e k A n c) (hk : ∀ b, b < W.heap.size → W'.heap[b]? = W.heap[b]?) : Ow W' base e k A n c := by
  obtain ⟨xs, h⟩ := h
  exact ⟨xs, own_keep h fun p hp => hk _ (own_lt h p hp).2⟩
theorem Ow.len {base e k n c : Nat} {A : Option Addr} (h : Ow W base e k A n c) : n ≤ 2 ^ 63 - 1 := by
  obtain ⟨xs, h⟩ := h
  obtain ⟨_, _, e, h1, h2⟩ := own_form h
  injection e with _ _ e
  subst e
  unfold maxLen at h2
  omega
theorem KW.below (h : KW lo hi V ga gb Aa na ca va Ab nb cb vb X nx cx W) (hb : Below W.heap.size W W') : KW lo hi V ga gb Aa na ca va Ab nb cb vb X nx cx W' :=
  ⟨h.ex.below hb h.ex.size, h.a.below hb h.a.lt, h.b.below hb h.b.lt, h.ra.keep hb.block, h.rb.keep hb.block, h.rx.keep hb.block, h.da, h.db, h.dx, h.hb⟩
theorem add_zero (g j : Nat) : (⟨g, 0, none⟩ : Addr).add j = ⟨g, j, none⟩ := by
  unfold Addr.add
  split
  · simp_all
  · simp
theorem KW.cellA (h : KW lo hi V ga gb Aa na ca va Ab nb cb vb X nx cx W) {j : Nat} (hj : j < na) : ∃ a u, Aa = some a ∧ W.cell? (a.add j) = some u ∧ W.frozen? (a.add j) = false ∧ (a.add j).block < W.heap.size ∧ ∀ v, KW lo hi V ga gb Aa na ca va Ab nb cb vb X nx cx (W.setCell (a.add j) v) := by
  obtain ⟨g, hA, h1, h2, ⟨u, hu⟩, hz⟩ := h.ra.cell (j := j) (by omega)
  obtain ⟨d1, d2, d3⟩ := h.da _ hA
  refine ⟨_, u, hA, ?_, ?_, ?_, fun v => ?_⟩ <;> rw [add_zero]
  · exact hu
  · exact hz
  · exact h2
  · exact h.set h1 d1 d2 d3 j v
theorem KW.cellB (h : KW lo hi V ga gb Aa na ca va Ab nb cb vb X nx cx W) {j : Nat} (hj : j < nb) : ∃ a u, Ab = some a ∧ W.cell? (a.add j) = some u ∧ W.frozen? (a.add j) = false ∧ (a.add j).block < W.heap.size ∧ ∀ v, KW lo hi V ga gb Aa na ca va Ab nb cb vb X nx cx (W.setCell (a.add j) v) := by
  obtain ⟨g, hA, h1, h2, ⟨u, hu⟩, hz⟩ := h.rb.cell (j := j) (by omega)
  obtain ⟨d1, d2, d3⟩ := h.db _ hA
  refine ⟨_, u, hA, ?_, ?_, ?_, fun v => ?_⟩ <;> rw [add_zero]
  · exact hu
  · exact hz
  · exact h2
  · exact h.set h1 d1 d2 d3 j v
theorem KW.cellX (h : KW lo hi V ga gb Aa na ca va Ab nb cb vb X nx cx W) {j : Nat} (hj : j < nx) : ∃ a u0 u1 u2 u3, X = some a ∧
    (W.cell? (a.add (j * 4)) = some u0 ∧ W.cell? ⟨(a.add (j * 4)).block, (a.add (j * 4)).off + 1, none⟩ = some u1 ∧ W.cell? ⟨(a.add (j * 4)).block, (a.add (j * 4)).off + 2, none⟩ = some u2 ∧ W.cell? ⟨(a.add (j * 4)).block, (a.add (j * 4)).off + 3, none⟩ = some u3) ∧
    (W.frozen? (a.add (j * 4)) = false ∧ W.frozen? ⟨(a.add (j * 4)).block, (a.add (j * 4)).off + 1, none⟩ = false ∧ W.frozen? ⟨(a.add (j * 4)).block, (a.add (j * 4)).off + 2, none⟩ = false ∧ W.frozen? ⟨(a.add (j * 4)).block, (a.add (j * 4)).off + 3, none⟩ = false) ∧
    ((∀ v0, (W.setCell (a.add (j * 4)) v0).cell? ⟨(a.add (j * 4)).block, (a.add (j * 4)).off + 1, none⟩ = some u1) ∧ (∀ v0, (W.setCell (a.add (j * 4)) v0).frozen? ⟨(a.add (j * 4)).block, (a.add (j * 4)).off + 1, none⟩ = false) ∧ (∀ v0 v1, ((W.setCell (a.add (j * 4)) v0).setCell ⟨(a.add (j * 4)).block, (a.add (j * 4)).off + 1, none⟩ v1).cell? ⟨(a.add (j * 4)).block, (a.add (j * 4)).off + 2, none⟩ = some u2) ∧ (∀ v0 v1, ((W.setCell (a.add (j * 4)) v0).setCell ⟨(a.add (j * 4)).block, (a.add (j * 4)).off + 1, none⟩ v1).frozen? ⟨(a.add (j * 4)).block, (a.add (j * 4)).off + 2, none⟩ = false) ∧ (∀ v0 v1 v2, (((W.setCell (a.add (j * 4)) v0).setCell ⟨(a.add (j * 4)).block, (a.add (j * 4)).off + 1, none⟩ v1).setCell ⟨(a.add (j * 4)).block, (a.add (j * 4)).off + 2, none⟩ v2).cell? ⟨(a.add (j * 4)).block, (a.add (j * 4)).off + 3, none⟩ = some u3) ∧ (∀ v0 v1 v2, (((W.setCell (a.add (j * 4)) v0).setCell ⟨(a.add (j * 4)).block, (a.add (j * 4)).off + 1, none⟩ v1).setCell ⟨(a.add (j * 4)).block, (a.add (j * 4)).off + 2, none⟩ v2).frozen? ⟨(a.add (j * 4)).block, (a.add (j * 4)).off + 3, none⟩ = false)) ∧
    (a.add (j * 4)).block < W.heap.size ∧ ∀ v0 v1 v2 v3, KW lo hi V ga gb Aa na ca va Ab nb cb vb X nx cx ((((W.setCell (a.add (j * 4)) v0).setCell ⟨(a.add (j * 4)).block, (a.add (j * 4)).off + 1, none⟩ v1).setCell ⟨(a.add (j * 4)).block, (a.add (j * 4)).off + 2, none⟩ v2).setCell ⟨(a.add (j * 4)).block, (a.add (j * 4)).off + 3, none⟩ v3) := by
  obtain ⟨g, hA, h1, h2, ⟨u0, hu0⟩, hz0⟩ := h.rx.cell (j := j * 4) (by omega)
  obtain ⟨g1, hA1, _, _, ⟨u1, hu1⟩, hz1⟩ := h.rx.cell (j := j * 4 + 1) (by omega)
  obtain ⟨g2, hA2, _, _, ⟨u2, hu2⟩, hz2⟩ := h.rx.cell (j := j * 4 + 2) (by omega)
  obtain ⟨g3, hA3, _, _, ⟨u3, hu3⟩, hz3⟩ := h.rx.cell (j := j * 4 + 3) (by omega)
  have e1 : g1 = g := by have := hA1.symm.trans hA; injection this with this; injection this
  have e2 : g2 = g := by have := hA2.symm.trans hA; injection this with this; injection this
  have e3 : g3 = g := by have := hA3.symm.trans hA; injection this with this; injection this
  subst e1 e2 e3
  obtain ⟨d1, d2, d3⟩ := h.dx _ hA
  refine ⟨_, u0, u1, u2, u3, hA, ?_, ?_, ?_, ?_, fun v0 v1 v2 v3 => ?_⟩ <;> rw [add_zero]
  · exact ⟨hu0, hu1, hu2, hu3⟩
  · exact ⟨hz0, hz1, hz2, hz3⟩
  · dsimp only
    refine ⟨fun v0 => ?_, fun v0 => ?_, fun v0 v1 => ?_, fun v0 v1 => ?_, fun v0 v1 v2 => ?_, fun v0 v1 v2 => ?_⟩
    · rw [World.cell?_setCell_other _ _ _ _ (by simp)]; exact hu1
    · rw [World.frozen?_setCell]; exact hz1
    · rw [World.cell?_setCell_other _ _ _ _ (by simp), World.cell?_setCell_other _ _ _ _ (by simp)]; exact hu2
    · rw [World.frozen?_setCell, World.frozen?_setCell]; exact hz2
    · rw [World.cell?_setCell_other _ _ _ _ (by simp), World.cell?_setCell_other _ _ _ _ (by simp), World.cell?_setCell_other _ _ _ _ (by simp)]; exact hu3
    · rw [World.frozen?_setCell, World.frozen?_setCell, World.frozen?_setCell]; exact hz3
  · exact h2
  · exact (((h.set h1 d1 d2 d3 _ v0).set h1 d1 d2 d3 _ v1).set h1 d1 d2 d3 _ v2).set h1 d1 d2 d3 _ v3
end

theorem rd_two {V : World} {g : Nat} {x y : Value} (h : Bk V g 9 #[x, y]) : Rd V (g + 1) 1 (some ⟨g, 0, none⟩) 2 [x, y] :=
  ⟨rfl, fun _ => ⟨_, rfl, by simp, World.news_of_block h⟩⟩
theorem own_in {W : World} {L hi e k n c : Nat} {A : Option Addr} {xs : List Value} (h : W.ownsRow L e k (.slice A n c) n xs) (hd : ∀ p, A = some p → p.block < hi) : ∀ g, (Value.slice A n c).ownBlock = some g → L ≤ g ∧ g < hi := by
  intro g hg
  refine ⟨(h.lt g hg).1, ?_⟩
  rcases A with _ | p
  · cases hg
  · have e1 : p.block = g := Option.some.inj hg
    have := hd p rfl
    omega
theorem take_len (s : Sd) (f : Fr) : (takeS s f).s.sent.length ≤ s.sent.length := by
  unfold takeS
  repeat' split
  all_goals first
    | exact Nat.zero_le _
    | exact Nat.le_refl _
    | simp [Sd.knows]

end Go.Proofs.Ytkklghdmnkdofaa
