/- Insert at any place; a quantity put anew. By gen_c.py. -/
import Derived.Test.YtiapbgbbeakoiaaPJ
import Derived.Test.YtiapbgbbeakoiaaB3
namespace Go.Proofs.Ytiapbgbbeakoiaa.P
open Go.RowKit

theorem insert_any (base n c p vb : Nat) (A : Option Addr) (l : List Lc) (x : Lc) (w : World) (hown : w.ownsRow base 36 3 (.slice A n c) n (lcs l)) (hl : l.length = n) (hn : (n + 1) * 24 ≤ 140737488355328) (hp : p ≤ n) (hbase : base ≤ w.heap.size)
    (hv : Bk w vb 36 #[.int .i64 x.acct, .int .i64 x.instr, .int .i64 x.qty]) (hne : ∀ a, A = some a → vb ≠ a.block) :
    Calls Try.prog 37 #[.slice A n c, .int .i64 (p : Int), .slice (some ⟨vb, 0, none⟩) 1 1] w (InsOut base w (l.take p ++ x :: l.drop p)) := by
  by_cases hpe : p = n
  · have e1 : l.take p = l := List.take_of_length_le (by omega)
    have e2 : l.drop p = [] := List.drop_eq_nil_of_le (by omega)
    rw [e1, e2]
    subst hpe
    exact insert_end base p c vb A l x w hown hl hn hbase hv
  · have hpl : p < n := by omega
    obtain ⟨g0, rfl⟩ : ∃ g0, A = some g0 := by
      rcases A with _ | g0
      · rcases hown.2 with ⟨_, h0⟩ | ⟨_, _, _, hv, _⟩
        · omega
        · cases hv
      · exact ⟨g0, rfl⟩
    obtain ⟨g, cur, rfl, hgb, hB, hmc, hcm, hsz, hcur⟩ := own_open hown
    by_cases hce : c = n
    · subst hce
      exact insert_grow base c p vb g l x cur w hbase hB hsz hl hcur hn hpl hv
    · exact insert_shift base n c p vb g l x cur w hgb hB (by omega) hcm hsz hl hcur hpl (hne _ rfl) hv

/-- A quantity put anew. -/
def putQ (l : List Lc) (p : Nat) (y : Int) : List Lc := l.set p { l.getD p default with qty := y }
theorem putQ_len (l : List Lc) (p : Nat) (y : Int) : (putQ l p y).length = l.length := by simp [putQ]
theorem lcs_putQ (l : List Lc) (p : Nat) (y : Int) (hp : p < l.length) : (lcs l).set (p * 3 + 2) (.int .i64 y) = lcs (putQ l p y) := by
  induction l generalizing p with
  | nil => simp at hp
  | cons a l ih =>
    have e : lcs (a :: l) = a.cells ++ lcs l := rfl
    rcases p with _ | p
    · rw [e]
      rfl
    · have e2 : lcs (putQ (a :: l) (p + 1) y) = a.cells ++ lcs (putQ l p y) := rfl
      rw [e, e2, ← ih p (by simpa using hp), List.set_append_right _ _ (by simp [Lc.cells]; omega)]
      congr 2
      simp [Lc.cells]; omega
theorem own_set {w : World} {base n c g : Nat} {cur : Array Value} {l : List Lc} {p : Nat} (hb : base ≤ g) (hB : Bk w g 36 cur) (h1 : n ≤ c) (h2 : c ≤ maxLen) (h3 : cur.size = c * 3) (hl : l.length = n) (h4 : cur.toList.take (n * 3) = lcs l) (hp : p < n) (y : Int) :
    (w.setCell ⟨g, p * 3 + 2, none⟩ (.int .i64 y)).ownsRow base 36 3 (.slice (some ⟨g, 0, none⟩) n c) n (lcs (putQ l p y)) := by
  refine own_shut hb (hB.set _ _) h1 h2 (by simp [h3]) (by rw [putQ_len, hl]) ?_
  rw [Array.toList_setIfInBounds, List.take_set, h4, lcs_putQ l p y (by omega)]
theorem getD_eta (l : List Lc) {k : Nat} (h : k < l.length) : l[k] = l.getD k default := (getD_lt h).symm
/-- What a call that answers a list and an error leaves. -/
def LOut (w : World) (r : List Lc × Int) (e : Ending) (w' : World) : Prop :=
  ∃ A c, e = .returned (.tuple #[.slice A r.1.length c, .int .i64 r.2]) ∧ r.1.length ≤ c ∧ c ≤ maxLen ∧ w'.ownsRow w.heap.size 36 3 (.slice A r.1.length c) r.1.length (lcs r.1) ∧ Below w.heap.size w w'
theorem l_bad {w w' : World} (er : Int) (hb : Below w.heap.size w w') : LOut w ([], er) (.returned (.tuple #[.slice none 0 0, .int .i64 er])) w' :=
  ⟨none, 0, rfl, Nat.le_refl _, Nat.zero_le _, World.ownsRow_nil _ _ _ _, hb⟩
theorem l_ok {w w' : World} {A : Option Addr} {c m : Nat} {ys : List Lc} (hl : ys.length = m) (hc : m ≤ c) (hc2 : c ≤ maxLen) (h1 : w'.ownsRow w.heap.size 36 3 (.slice A m c) m (lcs ys)) (hb : Below w.heap.size w w') :
    LOut w (ys, 0) (.returned (.tuple #[.slice A m c, .int .i64 0])) w' := by
  subst hl
  exact ⟨A, c, rfl, hc, hc2, h1, hb⟩


end Go.Proofs.Ytiapbgbbeakoiaa.P
