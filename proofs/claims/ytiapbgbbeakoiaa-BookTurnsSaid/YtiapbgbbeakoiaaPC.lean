/- Walks: the order, Clone. By gen_b.py. -/
import Derived.Test.YtiapbgbbeakoiaaPA
import Derived.Test.YtiapbgbbeakoiaaB2
namespace Go.Proofs.Ytiapbgbbeakoiaa.P
open Go.RowKit

theorem info36 : (Try.prog.info? 36).map (fun i => (i.zero, i.size, i.bytes)) = some (some (.agg #[.int .i64 0, .int .i64 0, .int .i64 0]), 3, 24) := by kernel_rfl

/-- by, of any two. -/
theorem by_any (x y : Lc) (w : World) : Calls Try.prog 35 #[x.val, y.val] w fun e w' => e = .returned (.int .i64 (cmpL x y)) ∧ Below w.heap.size w w' := by
  obtain ⟨W, hW⟩ : ∃ W, W = (w.alloc (.cells #[.int .i64 x.acct, .int .i64 x.instr, .int .i64 x.qty] 36)).alloc (.cells #[.int .i64 y.acct, .int .i64 y.instr, .int .i64 y.qty] 36) := ⟨_, rfl⟩
  have hB0 : Bk W w.heap.size 36 #[.int .i64 x.acct, .int .i64 x.instr, .int .i64 x.qty] := by rw [hW]; exact (Bk.new w _ _).alloc _
  have hB1 : Bk W (w.heap.size + 1) 36 #[.int .i64 y.acct, .int .i64 y.instr, .int .i64 y.qty] := by
    rw [hW]; have := Bk.new (w.alloc (.cells #[.int .i64 x.acct, .int .i64 x.instr, .int .i64 x.qty] 36)) 36 #[.int .i64 y.acct, .int .i64 y.instr, .int .i64 y.qty]; simpa using this
  have hbl : Below w.heap.size w W := by rw [hW]; exact ((Below.refl _ w).alloc (Nat.le_refl _) _).alloc (by simp) _
  have hz : w.heap.size ≤ W.heap.size := hbl.size
  have HB0 := Lib.hid hB0
  have HB1 := Lib.hid hB1
  have HBL := Lib.hid hbl
  obtain ⟨r, hr⟩ : ∃ r, r = cmpL x y := ⟨_, rfl⟩
  have HR := Lib.hid hr
  rw [← hr]
  clear hB0 hB1 hbl hr
  unfold Lc.val
  go_enter Try.func35, Try.ntmps35
  go_upto_region 1 with (fail)
  rw [← hW]
  clear hW
  have HS : Hid (∀ w', Below W.heap.size W w' → (fun w' => Below W.heap.size W w' ∧ w'.cell? ⟨w.heap.size, 0, none⟩ = some (.int .i64 x.acct) ∧ w'.cell? ⟨w.heap.size, 1, none⟩ = some (.int .i64 x.instr) ∧ w'.cell? ⟨w.heap.size + 1, 0, none⟩ = some (.int .i64 y.acct) ∧ w'.cell? ⟨w.heap.size + 1, 1, none⟩ = some (.int .i64 y.instr)) w') := fun w' h => by
    have a := (HB0.out.below h HB0.out.lt).three
    have b := (HB1.out.below h HB1.out.lt).three
    exact ⟨h, a.1, a.2.1, b.1, b.2.1⟩
  go_region_held3 (fun w' => Below W.heap.size W w' ∧ w'.cell? ⟨w.heap.size, 0, none⟩ = some (.int .i64 x.acct) ∧ w'.cell? ⟨w.heap.size, 1, none⟩ = some (.int .i64 x.instr) ∧ w'.cell? ⟨w.heap.size + 1, 0, none⟩ = some (.int .i64 y.acct) ∧ w'.cell? ⟨w.heap.size + 1, 1, none⟩ = some (.int .i64 y.instr))
    (first
      | with_reducible assumption
      | (refine HS.out _ ?_; repeat (first | with_reducible exact Below.refl _ _ | with_reducible refine Below.drew ?_ | with_reducible refine Below.alloc ?_ (Nat.le_refl _) _)))
    (first
      | (go_at_call 56; refine (compare_any _ _ _).mono ?_; rintro e w' ⟨rfl, rfl⟩)
      | (go_at_call 55; refine (or_any _ (cmpI x.acct y.acct) (cmpI x.instr y.instr) r _ HR.out (by simp) (by simp)).mono ?_; rintro e w' ⟨rfl, rfl⟩))
  all_goals
    go_wp2
    go_ret
    refine ⟨rfl, HBL.out.trans (Below.mono (B := W.heap.size) ?_ hz)⟩
    repeat (first | with_reducible exact Below.refl _ _ | with_reducible refine Below.drew ?_ | with_reducible refine Below.alloc ?_ (Nat.le_refl _) _)

/-- What a copy leaves. -/
theorem cloneL_any (A : Option Addr) (n c : Nat) (xs : List Value) (w : World) (h1c : ∀ u ∈ xs, u.oneCell' = true) (hn : n * 24 ≤ 140737488355328) (hr : Rd w w.heap.size 3 A n xs) :
    Calls Try.prog 33 #[.slice A n c] w fun r w' => ∃ A' c', r = .returned (.slice A' n c') ∧ n ≤ c' ∧ c' ≤ maxLen ∧ w'.ownsRow w.heap.size 36 3 (.slice A' n c') n xs ∧ Below w.heap.size w w' := by
  have hk := fun W => Lib.run_eql_slice_nil (P := Try.prog) W 22 36 A n c 0 0 Try.underlying22
  obtain ⟨i0, hi, hz0, hz1, hz2⟩ := info_parts info36
  rcases A with _ | a
  · have h0 : n = 0 := by
      rcases Nat.eq_zero_or_pos n with h0 | h0
      · exact h0
      · obtain ⟨_, h, _⟩ := hr.2 h0
        cases h
    subst h0
    have hs : xs = [] := List.eq_nil_of_length_eq_zero (by simpa using hr.1)
    subst hs
    go_enter Try.func33, Try.ntmps33
    go_wp2
    go_ret
    exact ⟨none, 0, rfl, Nat.le_refl _, Nat.zero_le _, World.ownsRow_nil _ _ _ _, Below.refl _ _⟩
  · have hown : (w.alloc (.cells #[] 36)).ownsRow w.heap.size 36 3 (.slice (some ⟨w.heap.size, 0, none⟩) 0 0) 0 [] := ⟨by simp, .inr ⟨w.heap.size, 0, #[], rfl, Nat.le_refl _, Bk.new _ _ _, Nat.le_refl _, Nat.zero_le _, by simp, by simp⟩⟩
    have hr1 : Rd (w.alloc (.cells #[] 36)) w.heap.size 3 (some a) n xs := hr.alloc (Nat.le_refl _) _
    go_enter Try.func33, Try.ntmps33
    go_wp2_with (at_builtin; go_must (refine wpList_append_rd _ rfl (.tmp 5) (.tmp 6) _ rfl w.heap.size 36 i0 _ 3 24 Try.underlying22 hi hz0 hz1 hz2 rfl (by omega) _ 0 [] rfl hown w.heap.size (some a) n c _ rfl hr1 h1c (by simp only [maxLen]; omega) (by omega) (by simp) ?_); intro A1 c1 w1 h1 h2 hown1 hg1 hat1)
    go_ret
    refine ⟨A1, c1, by simp, by omega, h2, by simpa using hown1, ((Below.refl w.heap.size w).alloc (Nat.le_refl _) _).grown hg1 (by simp) ?_⟩
    intro k hk'
    exact Nat.le_of_eq (Option.some.inj hk')


end Go.Proofs.Ytiapbgbbeakoiaa.P
