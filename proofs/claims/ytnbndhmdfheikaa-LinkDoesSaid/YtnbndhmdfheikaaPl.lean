/- Plain definitions: an end, a frame, and what the calls of package sess answer, with no program in sight. -/
import Derived.Below
import Derived.Laws.OwnMore
import Derived.Deep.AppendLies
import Derived.Deep.Draws
import Derived.WalkLawsBesides
namespace Go.Proofs.Ytnbndhmdfheikaa
open Go.RowKit

/-- An end of a session, as data. -/
structure Sd where
  sent : List ByteArray
  taken : Int
  known : Int

/-- A frame, as data. -/
structure Fr where
  kind : Int
  num : Int
  taken : Int
  body : ByteArray

def Fr.val (f : Fr) : Value := .agg #[.int .i64 f.kind, .int .i64 f.num, .int .i64 f.taken, .string f.body]
def Fr.cells (f : Fr) : List Value := [.int .i64 f.kind, .int .i64 f.num, .int .i64 f.taken, .string f.body]
def sideVal (v : Value) (s : Sd) : Value := .agg #[v, .int .i64 s.taken, .int .i64 s.known]

def fitsB (s : ByteArray) : Bool := decide (1 ≤ s.size ∧ s.size ≤ 4096)

def goodB (s : Sd) : Bool :=
  decide (s.sent.length ≤ 256 ∧ 0 ≤ s.known ∧ s.known ≤ s.sent.length ∧ 0 ≤ s.taken ∧ s.taken ≤ 1099511627776) && s.sent.all fitsB

def validB (f : Fr) : Bool :=
  decide (0 ≤ f.num ∧ f.num ≤ 1099511627776 ∧ 0 ≤ f.taken ∧ f.taken ≤ 1099511627776) &&
    (if f.kind = 1 then decide (1 ≤ f.num) && fitsB f.body
     else decide (f.body.size = 0) && ((decide (f.kind = 2) && decide (1 ≤ f.num)) || decide (f.kind = 3)))

theorem size_toList (s : ByteArray) : s.toList.length = s.size := by
  rw [ByteArray.toList_eq, Array.length_toList]; rfl
theorem empty_iff (s : ByteArray) : s.toList = [] ↔ s.size = 0 := by
  rw [← size_toList, List.length_eq_zero_iff]

/-! ### A slice that reads as a list -/

/-- The slice value '.slice A n c' reads as the cells xs (k cells an element), which lie below block B. -/
def Rd (w : World) (B k : Nat) (A : Option Addr) (n : Nat) (xs : List Value) : Prop :=
  xs.length = n * k ∧ (0 < n → ∃ a, A = some a ∧ a.block < B ∧ ∀ j u, xs[j]? = some u → w.cell? (a.add j) = some u)

theorem add_block (a : Addr) (n : Nat) : (a.add n).block = a.block := by unfold Addr.add; split <;> rfl
theorem add_add' (a : Addr) (i j : Nat) : (a.add i).add j = a.add (i + j) := by
  unfold Addr.add
  by_cases hi : i = 0 <;> by_cases hj : j = 0 <;> simp [hi, hj, Nat.add_assoc]

section
variable {w w' : World} {B B' k n : Nat} {A : Option Addr} {xs : List Value}
theorem Rd.nil (w : World) (B k : Nat) (A : Option Addr) : Rd w B k A 0 [] := ⟨by simp, fun h => absurd h (Nat.lt_irrefl 0)⟩
theorem Rd.of_cells (h : Rd w B k A n xs) (hk : ∀ p : Addr, p.block < B → w'.cell? p = w.cell? p) : Rd w' B k A n xs :=
  ⟨h.1, fun hn => by
    obtain ⟨a, e, hb, hc⟩ := h.2 hn
    exact ⟨a, e, hb, fun j u hu => (hk _ (by rw [add_block]; exact hb)).trans (hc j u hu)⟩⟩
theorem Rd.mono (h : Rd w B k A n xs) (hB : B ≤ B') : Rd w B' k A n xs :=
  ⟨h.1, fun hn => by
    obtain ⟨a, e, hb, hc⟩ := h.2 hn
    exact ⟨a, e, Nat.lt_of_lt_of_le hb hB, hc⟩⟩
theorem Rd.below (h : Rd w B k A n xs) (hb : Below B w w') : Rd w' B k A n xs := h.of_cells fun _ hp => hb.cell hp
theorem Rd.alloc (h : Rd w B k A n xs) (hB : B ≤ w.heap.size) (o : Obj) : Rd (w.alloc o) B k A n xs := h.of_cells fun p hp => World.cell?_alloc_lt w o p (by omega)
theorem Rd.setCell (h : Rd w B k A n xs) {p : Addr} (hB : B ≤ p.block) (u : Value) : Rd (w.setCell p u) B k A n xs :=
  h.of_cells fun q hq => World.cell?_setCell_other w p q u (fun e => by subst e; omega)
theorem Rd.drew (h : Rd w B k A n xs) : Rd w.drew B k A n xs := h
theorem Rd.drewN (h : Rd w B k A n xs) (m : Nat) : Rd (w.drewN m) B k A n xs := h
theorem Rd.grown (h : Rd w B k A n xs) {row : Option Nat} (hg : w.grownBy w' row) (hB : B ≤ w.heap.size) (hr : ∀ g, row = some g → B ≤ g) : Rd w' B k A n xs :=
  h.of_cells fun p hp => World.cell?_of_block (hg.block p.block (by omega) (fun e => by have := hr _ e.symm; omega))
theorem Rd.cell (h : Rd w B k A n xs) {j : Nat} {u : Value} (hu : xs[j]? = some u) : ∃ a, A = some a ∧ a.block < B ∧ w.cell? (a.add j) = some u := by
  have hn : 0 < n := by
    rcases Nat.eq_zero_or_pos n with h0 | h0
    · subst h0
      have : xs = [] := List.eq_nil_of_length_eq_zero (by simpa using h.1)
      subst this
      simp at hu
    · exact h0
  obtain ⟨a, e, hb, hc⟩ := h.2 hn
  exact ⟨a, e, hb, hc j u hu⟩
theorem Rd.of_own {base : Nat} {e : TypeId} {c : Nat} (h : w.ownsRow base e k (.slice A n c) n xs) : Rd w w.heap.size k A n xs := by
  refine ⟨h.1, fun hn => ?_⟩
  rcases h.2 with ⟨_, h0⟩ | ⟨g, cap, cur, hv, _, hg, _⟩
  · omega
  · injection hv with hA
    subst hA
    exact ⟨_, rfl, (Array.getElem?_eq_some_iff.1 hg).1, h.cells (g := g) rfl⟩
end

end Go.Proofs.Ytnbndhmdfheikaa
