/- The link: its state, plain, and as it lies in memory. -/
import Derived.Test.YtnbndhmdfheikaaF1
namespace Go.Proofs.Ytnbndhmdfheikaa
open Go.RowKit

/-- Two ends, what is under way to each, what counted at each. -/
structure Lk where
  e : Nat → Sd
  u : Nat → List Fr
  g : Nat → List ByteArray

def upd {α : Type} (f : Nat → α) (k : Nat) (v : α) : Nat → α := fun j => if j = k then v else f j
theorem upd_same {α : Type} (f : Nat → α) (k : Nat) (v : α) : upd f k v k = v := if_pos rfl
theorem upd_other {α : Type} (f : Nat → α) {k j : Nat} (v : α) (h : j ≠ k) : upd f k v j = f j := if_neg h
def Lk.setE (st : Lk) (k : Nat) (s : Sd) : Lk := { st with e := upd st.e k s }
def Lk.setU (st : Lk) (k : Nat) (l : List Fr) : Lk := { st with u := upd st.u k l }
def Lk.setG (st : Lk) (k : Nat) (l : List ByteArray) : Lk := { st with g := upd st.g k l }

/-- Frames laid on a way, as far as there is room. -/
def putU (u fs : List Fr) : List Fr := fs.foldl (fun u f => if u.length < 4096 then u ++ [f] else u) u
theorem putU_nil (u : List Fr) : putU u [] = u := rfl
theorem putU_snoc (u fs : List Fr) (f : Fr) : putU u (fs ++ [f]) = if (putU u fs).length < 4096 then putU u fs ++ [f] else putU u fs := by
  unfold putU
  rw [List.foldl_append]
  rfl
theorem putU_len (u fs : List Fr) (h : u.length ≤ 4096) : (putU u fs).length ≤ 4096 := by
  induction fs generalizing u with
  | nil => exact h
  | cons f fs ih =>
    have e : putU u (f :: fs) = putU (if u.length < 4096 then u ++ [f] else u) fs := rfl
    rw [e]
    refine ih _ ?_
    split
    · simp; omega
    · exact h

def strs (l : List ByteArray) : List Value := l.map Value.string
def rowTy : Nat → Nat | 2 => 44 | 3 => 44 | _ => 9
def rowSz : Nat → Nat | 2 => 4 | 3 => 4 | _ => 1
def rowXs (st : Lk) : Nat → List Value
  | 0 => (st.e 0).sent.map Value.string
  | 1 => (st.e 1).sent.map Value.string
  | 2 => frs (st.u 0)
  | 3 => frs (st.u 1)
  | 4 => (st.g 0).map Value.string
  | _ => (st.g 1).map Value.string
def rowLn (st : Lk) : Nat → Nat
  | 0 => (st.e 0).sent.length
  | 1 => (st.e 1).sent.length
  | 2 => (st.u 0).length
  | 3 => (st.u 1).length
  | 4 => (st.g 0).length
  | _ => (st.g 1).length
def lkCells (st : Lk) (R : Nat → Option Addr) (C : Nat → Nat) : Array Value :=
  #[.slice (R 0) (st.e 0).sent.length (C 0), .int .i64 (st.e 0).taken, .int .i64 (st.e 0).known, .slice (R 1) (st.e 1).sent.length (C 1), .int .i64 (st.e 1).taken, .int .i64 (st.e 1).known,
    .slice (R 2) (st.u 0).length (C 2), .slice (R 3) (st.u 1).length (C 3), .slice (R 4) (st.g 0).length (C 4), .slice (R 5) (st.g 1).length (C 5)]

/-- The link as it lies in memory, all from L on. -/
structure LinkAt (L lb : Nat) (st : Lk) (R : Nat → Option Addr) (C : Nat → Nat) (W : World) : Prop where
  bk : Bk W lb 58 (lkCells st R C)
  lo : L ≤ lb
  own : ∀ j, j < 6 → W.ownsRow L (rowTy j) (rowSz j) (.slice (R j) (rowLn st j) (C j)) (rowLn st j) (rowXs st j)
  dis : ∀ i j, i < 6 → j < 6 → i ≠ j → ∀ p q, R i = some p → R j = some q → p.block ≠ q.block

def inLink (lb : Nat) (R : Nat → Option Addr) (b : Nat) : Prop := b = lb ∨ ∃ j p, j < 6 ∧ R j = some p ∧ p.block = b
/-- Nothing but the link's own blocks turned; what is new in it is new. -/
structure Kept (lb : Nat) (R R' : Nat → Option Addr) (W W' : World) : Prop where
  os : W'.os = W.os
  tape : W'.tape = W.tape
  output : W'.output = W.output
  size : W.heap.size ≤ W'.heap.size
  block : ∀ b, b < W.heap.size → ¬ inLink lb R b → W'.heap[b]? = W.heap[b]?
  fresh : ∀ b, inLink lb R' b → inLink lb R b ∨ W.heap.size ≤ b

section
variable {L lb : Nat} {st st' : Lk} {R R' R'' : Nat → Option Addr} {C C' : Nat → Nat} {W W' W'' : World}
theorem Kept.refl (lb : Nat) (R : Nat → Option Addr) (W : World) : Kept lb R R W W := ⟨rfl, rfl, rfl, Nat.le_refl _, fun _ _ _ => rfl, fun _ h => .inl h⟩
theorem Kept.trans (h1 : Kept lb R R' W W') (h2 : Kept lb R' R'' W' W'') : Kept lb R R'' W W'' := by
  refine ⟨h2.os.trans h1.os, h2.tape.trans h1.tape, h2.output.trans h1.output, Nat.le_trans h1.size h2.size, fun b hb hn => ?_, fun b hb => ?_⟩
  · refine (h2.block b (Nat.lt_of_lt_of_le hb h1.size) fun hi => ?_).trans (h1.block b hb hn)
    rcases h1.fresh b hi with h3 | h3
    · exact hn h3
    · omega
  · rcases h2.fresh b hb with h3 | h3
    · exact h1.fresh b h3
    · exact .inr (Nat.le_trans h1.size h3)
theorem Kept.of_below (lb : Nat) (R : Nat → Option Addr) (h : Below W.heap.size W W') : Kept lb R R W W' := ⟨h.os, h.tape, h.output, h.size, fun b hb _ => h.block b hb, fun _ h => .inl h⟩
theorem LinkAt.blocks (h : LinkAt L lb st R C W) : ∀ b, inLink lb R b → L ≤ b ∧ b < W.heap.size := fun b hb => by
  rcases hb with rfl | ⟨j, p, hj, hp, rfl⟩
  · exact ⟨h.lo, h.bk.lt⟩
  · exact own_lt (h.own j hj) p hp
/-- Seen from outside: all below L is as it was. -/
theorem Kept.below (h : Kept lb R R' W W') (hl : LinkAt L lb st R C W) (hL : L ≤ W.heap.size) : Below L W W' :=
  ⟨h.os, h.tape, h.output, h.size, fun b hb => h.block b (by omega) fun hi => by have := (hl.blocks b hi).1; omega⟩
theorem rowTy_ne (j : Nat) : rowTy j ≠ 58 := by
  unfold rowTy
  split <;> omega
theorem LinkAt.row_ne (h : LinkAt L lb st R C W) {j : Nat} (hj : j < 6) {p : Addr} (hp : R j = some p) : p.block ≠ lb := by
  have ho := h.own j hj
  rw [hp] at ho
  rcases ho.2 with ⟨hv, _⟩ | ⟨g, cap, cur, hv, _, hh, _⟩
  · cases hv
  · injection hv with hv
    injection hv with hv
    subst hv
    have hB : Bk W g (rowTy j) cur := hh
    exact hB.ne h.bk (rowTy_ne j)
/-- A world in which no block of the link has turned. -/
theorem LinkAt.same (h : LinkAt L lb st R C W) (hk : ∀ b, inLink lb R b → W'.heap[b]? = W.heap[b]?) : LinkAt L lb st R C W' :=
  ⟨(hk lb (.inl rfl)).trans h.bk, h.lo, fun j hj => own_keep (h.own j hj) fun p hp => hk p.block (.inr ⟨j, p, hj, hp, rfl⟩), h.dis⟩
theorem LinkAt.over (h : LinkAt L lb st R C W) (hb : Below W.heap.size W W') : LinkAt L lb st R C W' := h.same fun b hi => hb.block b (h.blocks b hi).2
theorem LinkAt.alloc (h : LinkAt L lb st R C W) (o : Obj) : LinkAt L lb st R C (W.alloc o) := h.over ((Below.refl _ W).alloc (Nat.le_refl _) o)
theorem LinkAt.drew (h : LinkAt L lb st R C W) : LinkAt L lb st R C W.drew := h.over ((Below.refl _ W).drew)

/-- One row is another, and cells with it. -/
theorem LinkAt.row (h : LinkAt L lb st R C W) {j : Nat} (hj : j < 6) {A' : Option Addr} {c' : Nat} (hsame : ∀ i, i < 6 → i ≠ j → rowLn st' i = rowLn st i ∧ rowXs st' i = rowXs st i)
    (hbk : Bk W' lb 58 (lkCells st' (upd R j A') (upd C j c'))) (hown : W'.ownsRow L (rowTy j) (rowSz j) (.slice A' (rowLn st' j) c') (rowLn st' j) (rowXs st' j))
    (hblk : ∀ b, b < W.heap.size → b ≠ lb → (∀ p, R j = some p → p.block ≠ b) → W'.heap[b]? = W.heap[b]?) (hA : ∀ p, A' = some p → (∃ q, R j = some q ∧ q.block = p.block) ∨ W.heap.size ≤ p.block)
    (hos : W'.os = W.os) (htape : W'.tape = W.tape) (hout : W'.output = W.output) (hsz : W.heap.size ≤ W'.heap.size) : LinkAt L lb st' (upd R j A') (upd C j c') W' ∧ Kept lb R (upd R j A') W W' := by
  have hd : ∀ i, i < 6 → i ≠ j → ∀ p q, A' = some p → R i = some q → p.block ≠ q.block := fun i hi hij p q hp hq => by
    rcases hA p hp with ⟨r, hr, hb⟩ | hb
    · have := h.dis j i hj hi (Ne.symm hij) r q hr hq
      omega
    · have := (own_lt (h.own i hi) q hq).2
      omega
  refine ⟨⟨hbk, h.lo, fun i hi => ?_, fun i k hi hk hik p q hp hq => ?_⟩, ⟨hos, htape, hout, hsz, fun b hb hn => ?_, fun b hb => ?_⟩⟩
  · by_cases hij : i = j
    · subst hij
      rw [upd_same, upd_same]
      exact hown
    · rw [upd_other _ _ hij, upd_other _ _ hij, (hsame i hi hij).1, (hsame i hi hij).2]
      exact own_keep (h.own i hi) fun p hp => hblk p.block (own_lt (h.own i hi) p hp).2 (h.row_ne hi hp) fun q hq => h.dis j i hj hi (Ne.symm hij) q p hq hp
  · by_cases hij : i = j
    · subst hij
      rw [upd_same] at hp
      rw [upd_other _ _ (Ne.symm hik)] at hq
      exact hd k hk (Ne.symm hik) p q hp hq
    · rw [upd_other _ _ hij] at hp
      by_cases hkj : k = j
      · subst hkj
        rw [upd_same] at hq
        exact fun e => hd i hi hij q p hq hp e.symm
      · rw [upd_other _ _ hkj] at hq
        exact h.dis i k hi hk hik p q hp hq
  · exact hblk b hb (fun e => hn (.inl e)) fun p hp e => hn (.inr ⟨j, p, hj, hp, e⟩)
  · rcases hb with rfl | ⟨i, p, hi, hp, rfl⟩
    · exact .inl (.inl rfl)
    · by_cases hij : i = j
      · subst hij
        rw [upd_same] at hp
        rcases hA p hp with ⟨q, hq, hb⟩ | hb
        · exact .inl (.inr ⟨i, q, hi, hq, hb⟩)
        · exact .inr hb
      · rw [upd_other _ _ hij] at hp
        exact .inl (.inr ⟨i, p, hi, hp, rfl⟩)
end

theorem rd_block {w w' : World} {B k n : Nat} {A : Option Addr} {xs : List Value} (h : Rd w B k A n xs) (hk : ∀ p, A = some p → w'.heap[p.block]? = w.heap[p.block]?) : Rd w' B k A n xs :=
  ⟨h.1, fun hn => by
    obtain ⟨a, e, hb, hc⟩ := h.2 hn
    exact ⟨a, e, hb, fun j u hu => (World.cell?_of_block (a := a.add j) (by rw [add_block]; exact hk a e)).trans (hc j u hu)⟩⟩

theorem own_ne_bk {w : World} {b1 e1 s1 n c g t : Nat} {A : Option Addr} {xs : List Value} {cs : Array Value} (h : w.ownsRow b1 e1 s1 (.slice A n c) n xs) (h' : Bk w g t cs) (hne : e1 ≠ t) : some g ≠ (Value.slice A n c).ownBlock := by
  intro he
  rcases h.2 with ⟨hv, _⟩ | ⟨g', cap, cur, hv, _, hh, _⟩
  · rw [hv] at he; cases he
  · rw [hv] at he
    have e3 : g = g' := Option.some.inj he
    subst e3
    exact (Bk.ne hh h' hne) rfl
theorem own_ne_ge {w : World} {base e size n c g : Nat} {A : Option Addr} {xs : List Value} (h : w.ownsRow base e size (.slice A n c) n xs) (hg : w.heap.size ≤ g) : some g ≠ (Value.slice A n c).ownBlock := by
  intro he
  have := (h.lt _ he.symm).2
  omega

/-- A row is appended to, behind an alloc, and the link's cell says so. -/
theorem LinkAt.app {L lb : Nat} {st st' : Lk} {R : Nat → Option Addr} {C : Nat → Nat} {V w3 : World} {o : Obj} {j ci : Nat} {A1 : Option Addr} {c1 : Nat} {v : Value} (h : LinkAt L lb st R C V) (hj : j < 6)
    (hsame : ∀ i, i < 6 → i ≠ j → rowLn st' i = rowLn st i ∧ rowXs st' i = rowXs st i)
    (hown : w3.ownsRow L (rowTy j) (rowSz j) (.slice A1 (rowLn st' j) c1) (rowLn st' j) (rowXs st' j)) (hg : ((V.alloc o).drew).grownBy w3 (Value.slice (R j) (rowLn st j) (C j)).ownBlock)
    (hat : (Value.slice A1 (rowLn st' j) c1).ownBlock = (Value.slice (R j) (rowLn st j) (C j)).ownBlock ∨ (Value.slice A1 (rowLn st' j) c1).ownBlock = some ((V.alloc o).drew).heap.size)
    (hcells : (lkCells st R C).setIfInBounds ci v = lkCells st' (upd R j A1) (upd C j c1)) :
    LinkAt L lb st' (upd R j A1) (upd C j c1) (w3.setCell ⟨lb, ci, none⟩ v) ∧ Kept lb R (upd R j A1) V (w3.setCell ⟨lb, ci, none⟩ v) := by
  have hsz : ((V.alloc o).drew).heap.size = V.heap.size + 1 := by show (V.alloc o).heap.size = _; simp
  have hb3 : Bk w3 lb 58 (lkCells st R C) := ((h.bk.alloc o).drew).grown hg (own_ne_bk (h.own j hj) h.bk (rowTy_ne j))
  have hg1 := hg.size
  rw [hsz] at hg1
  refine h.row hj hsame ?_ ?_ (fun b hb hlb hr => ?_) (fun p hp => ?_) ?_ ?_ ?_ ?_
  · have := hb3.set ci v
    rwa [hcells] at this
  · refine own_keep hown fun p hp => Below.heap_setCell w3 ⟨lb, ci, none⟩ v p.block ?_
    subst hp
    rcases hown.2 with ⟨hv, _⟩ | ⟨g, cap, cur, hv, _, hh, _⟩
    · cases hv
    · injection hv with hv
      injection hv with hv
      subst hv
      have hB : Bk w3 g (rowTy j) cur := hh
      exact hB.ne hb3 (rowTy_ne j)
  · refine (Below.heap_setCell w3 ⟨lb, ci, none⟩ v b hlb).trans ((hg.block b (by omega) fun he => ?_).trans (Below.heap_alloc V o b hb))
    cases hR : R j with
    | none => rw [hR] at he; cases he
    | some p =>
      rw [hR] at he
      exact hr p hR (Option.some.inj he).symm
  · subst hp
    rcases hat with he | he
    · cases hR : R j with
      | none => rw [hR] at he; cases he
      | some q =>
        rw [hR] at he
        exact .inl ⟨q, rfl, (Option.some.inj he).symm⟩
    · rw [hsz] at he
      have := Option.some.inj he
      exact .inr (by omega)
  · exact hg.os
  · exact hg.tape
  · exact hg.output
  · simp [World.setCell]; omega

/-- What a call of the link leaves. -/
def LOut (L lb : Nat) (R : Nat → Option Addr) (W : World) (st' : Lk) (W' : World) : Prop := ∃ R' C', LinkAt L lb st' R' C' W' ∧ Kept lb R R' W W'

theorem end_any (b : Nat) (who : Int) (w : World) : Calls Try.prog 25 #[.pointer (some ⟨b, 0, none⟩), .int .i64 who] w fun e w' => e = .returned (.bool (decide (who = 0 ∨ who = 1))) ∧ w' = w := by
  by_cases h0 : who = 0
  · rw [decide_eq_true (.inl h0)]
    subst h0
    go_enter Try.func25, Try.ntmps25
    go_wp2
    go_ret
    exact ⟨rfl, rfl⟩
  · by_cases h1 : who = 1
    · rw [decide_eq_true (.inr h1)]
      subst h1
      go_enter Try.func25, Try.ntmps25
      go_wp2
      go_ret
      exact ⟨rfl, rfl⟩
    · rw [decide_eq_false (by omega)]
      have b0 : (who == 0) = false := by simpa using h0
      have b1 : (who == 1) = false := by simpa using h1
      go_enter Try.func25, Try.ntmps25
      go_wp2
      go_ret
      exact ⟨rfl, rfl⟩

end Go.Proofs.Ytnbndhmdfheikaa
