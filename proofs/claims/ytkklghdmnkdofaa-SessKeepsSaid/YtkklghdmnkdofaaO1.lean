/- The memory of SessOnce: two ends in one block, what is under way in a second, what counted in a third. -/
import Derived.Test.YtkklghdmnkdofaaO0
import Derived.Test.YtkklghdmnkdofaaMm
namespace Go.Proofs.Ytkklghdmnkdofaa
open Go.RowKit

/-- One end with all that is kept of it, and where its three slices lie. -/
structure ED where
  A : Option Addr
  c : Nat
  s : Sd
  B : Option Addr
  d : Nat
  u : List Fr
  C : Option Addr
  m : Nat
  g : List ByteArray

def arrE (i : Nat) (x y : ED) : Array Value := match i with
  | 0 => #[.slice x.A x.s.sent.length x.c, .int .i64 x.s.taken, .int .i64 x.s.known, .slice y.A y.s.sent.length y.c, .int .i64 y.s.taken, .int .i64 y.s.known]
  | _ => #[.slice y.A y.s.sent.length y.c, .int .i64 y.s.taken, .int .i64 y.s.known, .slice x.A x.s.sent.length x.c, .int .i64 x.s.taken, .int .i64 x.s.known]
def arrU (i : Nat) (x y : ED) : Array Value := match i with
  | 0 => #[.slice x.B x.u.length x.d, .slice y.B y.u.length y.d]
  | _ => #[.slice y.B y.u.length y.d, .slice x.B x.u.length x.d]
def arrC (i : Nat) (x y : ED) : Array Value := match i with
  | 0 => #[.slice x.C x.g.length x.m, .slice y.C y.g.length y.m]
  | _ => #[.slice y.C y.g.length y.m, .slice x.C x.g.length x.m]

/-- Two addresses lie in two blocks. -/
def Ap (a b : Option Addr) : Prop := ∀ p q, a = some p → b = some q → p.block ≠ q.block
theorem Ap.symm {a b : Option Addr} (h : Ap a b) : Ap b a := fun p q hp hq e => h q p hq hp e.symm
theorem Ap.none_left (b : Option Addr) : Ap none b := fun _ _ h => by cases h
theorem Ap.none_right (a : Option Addr) : Ap a none := fun _ _ _ h => by cases h

def rE (w : World) (G : Nat) (x : ED) : Prop := w.ownsRow G 9 1 (.slice x.A x.s.sent.length x.c) x.s.sent.length (x.s.sent.map Value.string)
def rU (w : World) (G : Nat) (x : ED) : Prop := w.ownsRow G 26 4 (.slice x.B x.u.length x.d) x.u.length (frs x.u)
def rC (w : World) (G : Nat) (x : ED) : Prop := w.ownsRow G 9 1 (.slice x.C x.g.length x.m) x.g.length (x.g.map Value.string)

structure Two (w : World) (G i : Nat) (x y : ED) : Prop where
  E : Bk w G 45 (arrE i x y)
  U : Bk w (G + 1) 46 (arrU i x y)
  C : Bk w (G + 1 + 1) 47 (arrC i x y)
  xA : rE w (G + 1 + 1 + 1) x
  yA : rE w (G + 1 + 1 + 1) y
  xB : rU w (G + 1 + 1 + 1) x
  yB : rU w (G + 1 + 1 + 1) y
  xC : rC w (G + 1 + 1 + 1) x
  yC : rC w (G + 1 + 1 + 1) y
  bb : Ap x.B y.B
  cc : Ap x.C y.C
  c1 : Ap x.C x.A
  c2 : Ap x.C y.A
  c3 : Ap y.C x.A
  c4 : Ap y.C y.A

theorem Two.swap {w : World} {G i : Nat} {x y : ED} (hi : i < 2) (h : Two w G i x y) : Two w G (1 - i) y x := by
  have e1 : arrE (1 - i) y x = arrE i x y := by
    obtain rfl | rfl : i = 0 ∨ i = 1 := by omega
    all_goals rfl
  have e2 : arrU (1 - i) y x = arrU i x y := by
    obtain rfl | rfl : i = 0 ∨ i = 1 := by omega
    all_goals rfl
  have e3 : arrC (1 - i) y x = arrC i x y := by
    obtain rfl | rfl : i = 0 ∨ i = 1 := by omega
    all_goals rfl
  exact ⟨by rw [e1]; exact h.E, by rw [e2]; exact h.U, by rw [e3]; exact h.C, h.yA, h.xA, h.yB, h.xB, h.yC, h.xC, h.bb.symm, h.cc.symm, h.c4, h.c3, h.c2, h.c1⟩

/-! ### Rows that stay -/
section
variable {w w' : World} {base base' e size n c : Nat} {A : Option Addr} {xs : List Value}
theorem own_keep (h : w.ownsRow base e size (.slice A n c) n xs) (hk : ∀ p, A = some p → w'.heap[p.block]? = w.heap[p.block]?) : w'.ownsRow base e size (.slice A n c) n xs := by
  refine ⟨h.1, ?_⟩
  rcases h.2 with h0 | ⟨g, cap, cur, hv, hg, hh, r⟩
  · exact .inl h0
  · refine .inr ⟨g, cap, cur, hv, hg, ?_, r⟩
    injection hv with hA
    rw [hk _ hA]; exact hh
theorem own_lt (h : w.ownsRow base e size (.slice A n c) n xs) : ∀ p, A = some p → base ≤ p.block ∧ p.block < w.heap.size := fun p hp => by
  subst hp
  exact h.lt p.block rfl
theorem own_type {e' size' n' c' : Nat} {A' : Option Addr} {xs' : List Value} (h : w.ownsRow base e size (.slice A n c) n xs) (h' : w.ownsRow base' e' size' (.slice A' n' c') n' xs') (hne : e ≠ e') : Ap A A' := by
  rintro p q rfl rfl heq
  rcases h.2 with ⟨h0, _⟩ | ⟨g, cap, cur, hv, hg, hh, r⟩
  · cases h0
  rcases h'.2 with ⟨h0, _⟩ | ⟨g', cap', cur', hv', hg', hh', r'⟩
  · cases h0
  injection hv with hv
  injection hv' with hv'
  injection hv with hv
  injection hv' with hv'
  subst hv hv'
  dsimp only at heq
  subst heq
  rw [hh] at hh'
  injection hh' with hh'
  injection hh' with _ hh'
  exact hne hh'
/-- A row laid later lies apart from an older one. -/
theorem own_apart {B : Nat} {w2 : World} {e' size' n' c' : Nat} {A' : Option Addr} {xs' : List Value} (h : w.ownsRow base e size (.slice A n c) n xs) (h' : w2.ownsRow B e' size' (.slice A' n' c') n' xs') (hB : w.heap.size ≤ B) : Ap A A' := fun p q hp hq heq => by
  have h1 := (own_lt h p hp).2
  have h2 := (own_lt h' q hq).1
  omega
end

section
variable {w w' : World} {G i : Nat} {x y : ED}

theorem Two.lt (h : Two w G i x y) : G + 1 + 1 < w.heap.size := h.C.lt

theorem Two.keep (h : Two w G i x y) (hk : ∀ k, k < w.heap.size → w'.heap[k]? = w.heap[k]?) : Two w' G i x y := by
  have hl := h.lt
  exact ⟨(hk _ (by omega)).trans h.E, (hk _ (by omega)).trans h.U, (hk _ (by omega)).trans h.C,
    own_keep h.xA fun p hp => hk _ (own_lt h.xA p hp).2, own_keep h.yA fun p hp => hk _ (own_lt h.yA p hp).2,
    own_keep h.xB fun p hp => hk _ (own_lt h.xB p hp).2, own_keep h.yB fun p hp => hk _ (own_lt h.yB p hp).2,
    own_keep h.xC fun p hp => hk _ (own_lt h.xC p hp).2, own_keep h.yC fun p hp => hk _ (own_lt h.yC p hp).2,
    h.bb, h.cc, h.c1, h.c2, h.c3, h.c4⟩
theorem Two.below {B : Nat} (h : Two w G i x y) (hb : Below B w w') (hB : w.heap.size ≤ B) : Two w' G i x y := h.keep fun k hk => hb.block k (by omega)
theorem Two.alloc (h : Two w G i x y) (o : Obj) : Two (w.alloc o) G i x y := h.keep fun k hk => Below.heap_alloc w o k hk
theorem Two.drew (h : Two w G i x y) : Two w.drew G i x y := h.keep fun _ _ => rfl

/-- The cells of an end. -/
theorem Two.cells (h : Two w G i x y) (hi : i < 2) :
    (w.cell? ⟨G, i * 3, none⟩ = some (.slice x.A x.s.sent.length x.c) ∧ w.cell? ⟨G, i * 3 + 1, none⟩ = some (.int .i64 x.s.taken) ∧ w.cell? ⟨G, i * 3 + 2, none⟩ = some (.int .i64 x.s.known)) ∧
    w.cell? ⟨G + 1, i, none⟩ = some (.slice x.B x.u.length x.d) ∧ w.cell? ⟨G + 1 + 1, i, none⟩ = some (.slice x.C x.g.length x.m) ∧
    (w.frozen? ⟨G, i * 3, none⟩ = false ∧ w.frozen? ⟨G, i * 3 + 1, none⟩ = false ∧ w.frozen? ⟨G, i * 3 + 2, none⟩ = false) ∧ w.frozen? ⟨G + 1, i, none⟩ = false ∧ w.frozen? ⟨G + 1 + 1, i, none⟩ = false := by
  refine ⟨⟨?_, ?_, ?_⟩, ?_, ?_, ⟨h.E.frozen _, h.E.frozen _, h.E.frozen _⟩, h.U.frozen _, h.C.frozen _⟩
  · rw [h.E.cell]; obtain rfl | rfl : i = 0 ∨ i = 1 := by omega
    all_goals rfl
  · rw [h.E.cell]; obtain rfl | rfl : i = 0 ∨ i = 1 := by omega
    all_goals rfl
  · rw [h.E.cell]; obtain rfl | rfl : i = 0 ∨ i = 1 := by omega
    all_goals rfl
  · rw [h.U.cell]; obtain rfl | rfl : i = 0 ∨ i = 1 := by omega
    all_goals rfl
  · rw [h.C.cell]; obtain rfl | rfl : i = 0 ∨ i = 1 := by omega
    all_goals rfl

/-- A store into one of the three blocks touches no row. -/
theorem own_set {base e size n c : Nat} {A : Option Addr} {xs : List Value} (h : w.ownsRow base e size (.slice A n c) n xs) {p : Addr} (hp : p.block < base) (u : Value) : (w.setCell p u).ownsRow base e size (.slice A n c) n xs :=
  ownsRow_setCell_below h hp u

/-- An end put anew. -/
theorem Two.putE (h : Two w G i x y) (hi : i < 2) {A' : Option Addr} {c' B : Nat} {s' : Sd} (ho : w.ownsRow B 9 1 (.slice A' s'.sent.length c') s'.sent.length (s'.sent.map Value.string)) (hB : G + 1 + 1 + 1 ≤ B)
    (h1 : Ap x.C A') (h2 : Ap y.C A') :
    Two (((w.setCell ⟨G, i * 3, none⟩ (.slice A' s'.sent.length c')).setCell ⟨G, i * 3 + 1, none⟩ (.int .i64 s'.taken)).setCell ⟨G, i * 3 + 2, none⟩ (.int .i64 s'.known)) G i ⟨A', c', s', x.B, x.d, x.u, x.C, x.m, x.g⟩ y := by
  have hE := ((h.E.set (i * 3) (.slice A' s'.sent.length c')).set (i * 3 + 1) (.int .i64 s'.taken)).set (i * 3 + 2) (.int .i64 s'.known)
  have hU := ((h.U.far (p := ⟨G, i * 3, none⟩) (by simp) (.slice A' s'.sent.length c')).far (p := ⟨G, i * 3 + 1, none⟩) (by simp) (.int .i64 s'.taken)).far (p := ⟨G, i * 3 + 2, none⟩) (by simp) (.int .i64 s'.known)
  have hC := ((h.C.far (p := ⟨G, i * 3, none⟩) (by simp; omega) (.slice A' s'.sent.length c')).far (p := ⟨G, i * 3 + 1, none⟩) (by simp; omega) (.int .i64 s'.taken)).far (p := ⟨G, i * 3 + 2, none⟩) (by simp; omega) (.int .i64 s'.known)
  have g (j : Nat) : G < G + 1 + 1 + 1 := by omega
  have st : ∀ {e size n c : Nat} {A : Option Addr} {xs : List Value}, w.ownsRow (G + 1 + 1 + 1) e size (.slice A n c) n xs →
      (((w.setCell ⟨G, i * 3, none⟩ (.slice A' s'.sent.length c')).setCell ⟨G, i * 3 + 1, none⟩ (.int .i64 s'.taken)).setCell ⟨G, i * 3 + 2, none⟩ (.int .i64 s'.known)).ownsRow (G + 1 + 1 + 1) e size (.slice A n c) n xs :=
    fun h => own_set (own_set (own_set h (p := ⟨G, i * 3, none⟩) (g 0) _) (p := ⟨G, i * 3 + 1, none⟩) (g 0) _) (p := ⟨G, i * 3 + 2, none⟩) (g 0) _
  refine ⟨?_, ?_, ?_, st (own_mono ho hB), st h.yA, st h.xB, st h.yB, st h.xC, st h.yC, h.bb, h.cc, h1, h.c2, h2, h.c4⟩
  · refine Eq.trans hE ?_
    obtain rfl | rfl : i = 0 ∨ i = 1 := by omega
    all_goals rfl
  · refine Eq.trans hU ?_
    obtain rfl | rfl : i = 0 ∨ i = 1 := by omega
    all_goals rfl
  · refine Eq.trans hC ?_
    obtain rfl | rfl : i = 0 ∨ i = 1 := by omega
    all_goals rfl

/-- The world behind an append and the store of its value, by what the append leaves. -/
theorem Two.putU (h : Two w G i x y) (hi : i < 2) {w' : World} {B' : Option Addr} {d' : Nat} {l : List Fr} (hg : w.grownBy w' (Value.slice x.B x.u.length x.d).ownBlock)
    (ho : w'.ownsRow (G + 1 + 1 + 1) 26 4 (.slice B' l.length d') l.length (frs l)) (hat : (Value.slice B' l.length d').ownBlock = (Value.slice x.B x.u.length x.d).ownBlock ∨ ∀ p, B' = some p → w.heap.size ≤ p.block) :
    Two (w'.setCell ⟨G + 1, i, none⟩ (.slice B' l.length d')) G i ⟨x.A, x.c, x.s, B', d', l, x.C, x.m, x.g⟩ y := by
  have hlt := h.lt
  have nr : ∀ k, k < G + 1 + 1 + 1 → some k ≠ (Value.slice x.B x.u.length x.d).ownBlock := fun k hk e => by
    have := (h.xB.lt k e.symm).1
    omega
  have bb' : Ap B' y.B := by
    rintro p q rfl hq heq
    rcases hat with h1 | h1
    · rcases hx : x.B with _ | r
      · rw [hx] at h1; cases h1
      · rw [hx] at h1
        simp only [Value.ownBlock, Option.some.injEq] at h1
        exact h.bb r q hx hq (h1.symm.trans heq)
    · have h2 := (own_lt h.yB q hq).2
      have h3 := h1 p rfl
      omega
  have nb : ∀ {A : Option Addr}, Ap x.B A → ∀ p, A = some p → some p.block ≠ (Value.slice x.B x.u.length x.d).ownBlock := fun {A} hA p hp e => by
    rcases hx : x.B with _ | r
    · rw [hx] at e; cases e
    · rw [hx] at e
      simp only [Value.ownBlock, Option.some.injEq] at e
      exact hA r p hx hp e.symm
  have kp : ∀ {e size n c : Nat} {A : Option Addr} {xs : List Value}, w.ownsRow (G + 1 + 1 + 1) e size (.slice A n c) n xs → Ap x.B A →
      (w'.setCell ⟨G + 1, i, none⟩ (.slice B' l.length d')).ownsRow (G + 1 + 1 + 1) e size (.slice A n c) n xs := fun h0 hA =>
    own_set (own_keep h0 fun p hp => hg.block _ (own_lt h0 p hp).2 (nb hA p hp)) (p := ⟨G + 1, i, none⟩) (by show G + 1 < _; omega) _
  have ty : ∀ {n c : Nat} {A : Option Addr} {xs : List Value}, w.ownsRow (G + 1 + 1 + 1) 9 1 (.slice A n c) n xs → Ap x.B A := fun h0 => own_type h.xB h0 (by decide)
  refine ⟨?_, ?_, ?_, kp h.xA (ty h.xA), kp h.yA (ty h.yA), own_set ho (p := ⟨G + 1, i, none⟩) (by show G + 1 < _; omega) _, kp h.yB h.bb, kp h.xC (ty h.xC), kp h.yC (ty h.yC), bb', h.cc, h.c1, h.c2, h.c3, h.c4⟩
  · have := (h.E.grown hg (nr _ (by omega))).far (p := ⟨G + 1, i, none⟩) (by simp) (.slice B' l.length d')
    refine Eq.trans this ?_
    obtain rfl | rfl : i = 0 ∨ i = 1 := by omega
    all_goals rfl
  · have := (h.U.grown hg (nr _ (by omega))).set i (.slice B' l.length d')
    refine Eq.trans this ?_
    obtain rfl | rfl : i = 0 ∨ i = 1 := by omega
    all_goals rfl
  · have := (h.C.grown hg (nr _ (by omega))).far (p := ⟨G + 1, i, none⟩) (by simp) (.slice B' l.length d')
    refine Eq.trans this ?_
    obtain rfl | rfl : i = 0 ∨ i = 1 := by omega
    all_goals rfl

theorem Two.putC (h : Two w G i x y) (hi : i < 2) {w' : World} {C' : Option Addr} {m' : Nat} {l : List ByteArray} (hg : w.grownBy w' (Value.slice x.C x.g.length x.m).ownBlock)
    (ho : w'.ownsRow (G + 1 + 1 + 1) 9 1 (.slice C' l.length m') l.length (l.map Value.string)) (hat : (Value.slice C' l.length m').ownBlock = (Value.slice x.C x.g.length x.m).ownBlock ∨ ∀ p, C' = some p → w.heap.size ≤ p.block) :
    Two (w'.setCell ⟨G + 1 + 1, i, none⟩ (.slice C' l.length m')) G i ⟨x.A, x.c, x.s, x.B, x.d, x.u, C', m', l⟩ y := by
  have hlt := h.lt
  have nr : ∀ k, k < G + 1 + 1 + 1 → some k ≠ (Value.slice x.C x.g.length x.m).ownBlock := fun k hk e => by
    have := (h.xC.lt k e.symm).1
    omega
  have ap' : ∀ {A : Option Addr}, Ap x.C A → (∀ q, A = some q → q.block < w.heap.size) → Ap C' A := by
    rintro A hA hlA p q rfl hq heq
    rcases hat with h1 | h1
    · rcases hx : x.C with _ | r
      · rw [hx] at h1; cases h1
      · rw [hx] at h1
        simp only [Value.ownBlock, Option.some.injEq] at h1
        exact hA r q hx hq (h1.symm.trans heq)
    · have h2 := hlA q hq
      have h3 := h1 p rfl
      omega
  have nb : ∀ {A : Option Addr}, Ap x.C A → ∀ p, A = some p → some p.block ≠ (Value.slice x.C x.g.length x.m).ownBlock := fun {A} hA p hp e => by
    rcases hx : x.C with _ | r
    · rw [hx] at e; cases e
    · rw [hx] at e
      simp only [Value.ownBlock, Option.some.injEq] at e
      exact hA r p hx hp e.symm
  have kp : ∀ {e size n c : Nat} {A : Option Addr} {xs : List Value}, w.ownsRow (G + 1 + 1 + 1) e size (.slice A n c) n xs → Ap x.C A →
      (w'.setCell ⟨G + 1 + 1, i, none⟩ (.slice C' l.length m')).ownsRow (G + 1 + 1 + 1) e size (.slice A n c) n xs := fun h0 hA =>
    own_set (own_keep h0 fun p hp => hg.block _ (own_lt h0 p hp).2 (nb hA p hp)) (p := ⟨G + 1 + 1, i, none⟩) (by show G + 1 + 1 < _; omega) _
  have ty : ∀ {n c : Nat} {A : Option Addr} {xs : List Value}, w.ownsRow (G + 1 + 1 + 1) 26 4 (.slice A n c) n xs → Ap x.C A := fun h0 => own_type h.xC h0 (by decide)
  refine ⟨?_, ?_, ?_, kp h.xA h.c1, kp h.yA h.c2, kp h.xB (ty h.xB), kp h.yB (ty h.yB), own_set ho (p := ⟨G + 1 + 1, i, none⟩) (by show G + 1 + 1 < _; omega) _, kp h.yC h.cc, h.bb,
    ap' h.cc fun q hq => (own_lt h.yC q hq).2, ap' h.c1 fun q hq => (own_lt h.xA q hq).2, ap' h.c2 fun q hq => (own_lt h.yA q hq).2, h.c3, h.c4⟩
  · have := (h.E.grown hg (nr _ (by omega))).far (p := ⟨G + 1 + 1, i, none⟩) (by simp; omega) (.slice C' l.length m')
    refine Eq.trans this ?_
    obtain rfl | rfl : i = 0 ∨ i = 1 := by omega
    all_goals rfl
  · have := (h.U.grown hg (nr _ (by omega))).far (p := ⟨G + 1 + 1, i, none⟩) (by simp) (.slice C' l.length m')
    refine Eq.trans this ?_
    obtain rfl | rfl : i = 0 ∨ i = 1 := by omega
    all_goals rfl
  · have := (h.C.grown hg (nr _ (by omega))).set i (.slice C' l.length m')
    refine Eq.trans this ?_
    obtain rfl | rfl : i = 0 ∨ i = 1 := by omega
    all_goals rfl

theorem grown_trans {w w1 w2 : World} {row : Option Nat} (h : w.grownBy w1 row) (h' : w1.grownBy w2 row) : w.grownBy w2 row :=
  ⟨h'.os.trans h.os, h'.tape.trans h.tape, h'.output.trans h.output, Nat.le_trans h.size h'.size, fun k hk hr => (h'.block k (Nat.lt_of_lt_of_le hk h.size) hr).trans (h.block k hk hr)⟩
theorem grown_drew {w w1 : World} {row : Option Nat} (h : w.grownBy w1 row) : w.grownBy w1.drew row := ⟨h.os, h.tape, h.output, h.size, h.block⟩
theorem grown_alloc {w w1 : World} {row : Option Nat} (h : w.grownBy w1 row) (o : Obj) : w.grownBy (w1.alloc o) row := grown_trans h (World.grownBy_alloc _ _ _)

theorem grown_drew' {w w1 : World} {row : Option Nat} (h : w.drew.grownBy w1 row) : w.grownBy w1 row := ⟨h.os, h.tape, h.output, h.size, h.block⟩
theorem grown_alloc' {w w1 : World} {row : Option Nat} {o : Obj} (h : (w.alloc o).grownBy w1 row) : w.grownBy w1 row := grown_trans (World.grownBy_alloc _ _ _) h
/-- The cells of the other end's list behind an append to it. -/
theorem Two.cellU (h : Two w G i x y) (hi : i < 2) {j : Nat} (hj : j = 1 - i) {W4 : World} (hg : w.grownBy W4 (Value.slice y.B y.u.length y.d).ownBlock) :
    W4.cell? ⟨G + 1, j, none⟩ = some (.slice y.B y.u.length y.d) ∧ W4.frozen? ⟨G + 1, j, none⟩ = false ∧ G + 1 < W4.heap.size := by
  have hlt := h.lt
  have nr : some (G + 1) ≠ (Value.slice y.B y.u.length y.d).ownBlock := fun e => by
    have := (h.yB.lt (G + 1) e.symm).1
    omega
  have hb := hg.block (G + 1) (by omega) nr
  obtain ⟨_, q, _, _, z, _⟩ := (h.swap hi).cells (by omega)
  rw [← hj] at q z
  refine ⟨?_, ?_, Nat.lt_of_lt_of_le (by omega) hg.size⟩
  · rw [World.cell?_of_block (w := w) hb]; exact q
  · rw [World.frozen?_of_block (w := w) hb]; exact z

/-- Frames appended to what is under way to the other end. -/
theorem Two.addU (h : Two w G i x y) (hi : i < 2) {j : Nat} (hj : j = 1 - i) {W4 : World} {B' : Option Addr} {d' n' : Nat} {l : List Fr} (hg : w.grownBy W4 (Value.slice y.B y.u.length y.d).ownBlock)
    (ho : W4.ownsRow (G + 1 + 1 + 1) 26 4 (.slice B' n' d') n' (frs y.u ++ frs l)) (hn : n' = y.u.length + l.length)
    (hat : (Value.slice B' n' d').ownBlock = (Value.slice y.B y.u.length y.d).ownBlock ∨ ∀ p, B' = some p → w.heap.size ≤ p.block) :
    Two (W4.setCell ⟨G + 1, j, none⟩ (.slice B' n' d')) G i x ⟨y.A, y.c, y.s, B', d', y.u ++ l, y.C, y.m, y.g⟩ := by
  have hln : (y.u ++ l).length = n' := by simp [hn]
  subst hj
  have h2 := (h.swap hi).putU (w' := W4) (B' := B') (d' := d') (l := y.u ++ l) (by omega) hg (by rw [hln, frs_append]; exact ho) (by rw [hln]; exact hat)
  rw [hln] at h2
  have h3 := h2.swap (by omega)
  have e : 1 - (1 - i) = i := by omega
  rw [e] at h3
  exact h3
end

end Go.Proofs.Ytkklghdmnkdofaa
