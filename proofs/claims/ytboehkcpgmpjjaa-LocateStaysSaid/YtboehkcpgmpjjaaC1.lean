/- Walks: the order of reservations. -/
import Derived.Test.YtboehkcpgmpjjaaA2
import Derived.Test.YtboehkcpgmpjjaaProg
import Derived.Deep.RegionHeld3
import Derived.Deep.DeepMust
import Derived.Deep.DeepCutAuto
import Derived.Deep.CutBlock
import Derived.Deep.CutRange
import Derived.StillTailTactics
import Derived.Lib.Hide
namespace Go.Proofs.Ytboehkcpgmpjjaa
open Go.RowKit

theorem isnan_any (x : Int) (w : World) : Calls Try.prog 37 #[.int .i64 x] w fun e w' => e = .returned (.bool false) ∧ w' = w := by
  go_enter Try.func37, Try.ntmps37
  go_wp2
  go_ret
  exact ⟨rfl, rfl⟩

theorem compare_any (x y : Int) (w : World) : Calls Try.prog 33 #[.int .i64 x, .int .i64 y] w fun e w' => e = .returned (.int .i64 (cmpI x y)) ∧ w' = w := by
  by_cases h1 : x < y
  · have e : cmpI x y = -1 := by unfold cmpI; rw [if_pos h1]
    rw [e]
    go_enter Try.func33, Try.ntmps33
    go_wp2_with fail
    refine (isnan_any x w).mono ?_
    rintro e w' ⟨rfl, rfl⟩
    go_wp2_with fail
    refine (isnan_any y _).mono ?_
    rintro e w' ⟨rfl, rfl⟩
    go_wp2
    go_ret
    exact ⟨rfl, rfl⟩
  by_cases h2 : y < x
  · have e : cmpI x y = 1 := by unfold cmpI; rw [if_neg h1, if_pos h2]
    rw [e]
    go_enter Try.func33, Try.ntmps33
    go_wp2_with fail
    refine (isnan_any x w).mono ?_
    rintro e w' ⟨rfl, rfl⟩
    go_wp2_with fail
    refine (isnan_any y _).mono ?_
    rintro e w' ⟨rfl, rfl⟩
    go_wp2
    go_ret
    exact ⟨rfl, rfl⟩
  · have e : cmpI x y = 0 := by unfold cmpI; rw [if_neg h1, if_neg h2]
    rw [e]
    go_enter Try.func33, Try.ntmps33
    go_wp2_with fail
    refine (isnan_any x w).mono ?_
    rintro e w' ⟨rfl, rfl⟩
    go_wp2_with fail
    refine (isnan_any y _).mono ?_
    rintro e w' ⟨rfl, rfl⟩
    go_wp2
    go_ret
    exact ⟨rfl, rfl⟩

theorem or_any (g : Nat) (a b r : Int) (w : World) (hr : r = if a ≠ 0 then a else b) (h0 : w.cell? ⟨g, 0, none⟩ = some (.int .i64 a)) (h1 : w.cell? ⟨g, 1, none⟩ = some (.int .i64 b)) :
    Calls Try.prog 32 #[.slice (some ⟨g, 0, none⟩) 2 2] w fun e w' => e = .returned (.int .i64 r) ∧ w' = w := by
  rw [hr]
  clear hr
  go_enter Try.func32, Try.ntmps32
  by_cases ha : a = 0
  · subst ha
    rw [if_neg (by simp)]
    by_cases hb : b = 0
    · subst hb
      go_wp2
      refine wp_loop_rounds 3 ?_
      rw [rounds_succ]
      go_wp2
      rw [rounds_succ]
      go_wp2
      rw [rounds_succ]
      go_wp2
      go_ret
      exact ⟨rfl, rfl⟩
    · go_wp2
      refine wp_loop_rounds 2 ?_
      rw [rounds_succ]
      go_wp2
      rw [rounds_succ]
      go_wp2
      go_ret
      exact ⟨rfl, rfl⟩
  · rw [if_pos ha]
    go_wp2
    refine wp_loop_rounds 1 ?_
    rw [rounds_succ]
    go_wp2
    go_ret
    exact ⟨rfl, rfl⟩

/-- by, of any two reservations. -/
theorem by_any (x y : Lc) (w : World) : Calls Try.prog 27 #[x.val, y.val] w fun e w' => e = .returned (.int .i64 (cmpL x y)) ∧ Below w.heap.size w w' := by
  obtain ⟨W, hW⟩ : ∃ W, W = (w.alloc (.cells #[.int .i64 x.acct, .int .i64 x.instr, .int .i64 x.qty] 39)).alloc (.cells #[.int .i64 y.acct, .int .i64 y.instr, .int .i64 y.qty] 39) := ⟨_, rfl⟩
  have hB0 : Bk W w.heap.size 39 #[.int .i64 x.acct, .int .i64 x.instr, .int .i64 x.qty] := by rw [hW]; exact (Bk.new w _ _).alloc _
  have hB1 : Bk W (w.heap.size + 1) 39 #[.int .i64 y.acct, .int .i64 y.instr, .int .i64 y.qty] := by
    rw [hW]; have := Bk.new (w.alloc (.cells #[.int .i64 x.acct, .int .i64 x.instr, .int .i64 x.qty] 39)) 39 #[.int .i64 y.acct, .int .i64 y.instr, .int .i64 y.qty]; simpa using this
  have hbl : Below w.heap.size w W := by rw [hW]; exact ((Below.refl _ w).alloc (Nat.le_refl _) _).alloc (by simp) _
  have hz : w.heap.size ≤ W.heap.size := hbl.size
  have HB0 := Lib.hid hB0
  have HB1 := Lib.hid hB1
  have HBL := Lib.hid hbl
  obtain ⟨r, hr⟩ : ∃ r, r = cmpL x y := ⟨_, rfl⟩
  have HR := Lib.hid hr
  rw [← hr]
  clear hB0 hB1 hbl hr
  unfold Lc.val
  go_enter Try.func27, Try.ntmps27
  go_upto_region 1 with (fail)
  rw [← hW]
  clear hW
  have HS : Hid (∀ w', Below W.heap.size W w' → (fun w' => Below W.heap.size W w' ∧ w'.cell? ⟨w.heap.size, 0, none⟩ = some (.int .i64 x.acct) ∧ w'.cell? ⟨w.heap.size, 1, none⟩ = some (.int .i64 x.instr) ∧ w'.cell? ⟨w.heap.size + 1, 0, none⟩ = some (.int .i64 y.acct) ∧ w'.cell? ⟨w.heap.size + 1, 1, none⟩ = some (.int .i64 y.instr)) w') := fun w' h => by
    have a := (HB0.out.below h HB0.out.lt).three
    have b := (HB1.out.below h HB1.out.lt).three
    exact ⟨h, a.1, a.2.1, b.1, b.2.1⟩
  go_region_held3 (fun w' => Below W.heap.size W w' ∧ w'.cell? ⟨w.heap.size, 0, none⟩ = some (.int .i64 x.acct) ∧ w'.cell? ⟨w.heap.size, 1, none⟩ = some (.int .i64 x.instr) ∧ w'.cell? ⟨w.heap.size + 1, 0, none⟩ = some (.int .i64 y.acct) ∧ w'.cell? ⟨w.heap.size + 1, 1, none⟩ = some (.int .i64 y.instr))
    (first
      | with_reducible assumption
      | (refine HS.out _ ?_; repeat (first | with_reducible exact Below.refl _ _ | with_reducible refine Below.drew ?_ | with_reducible refine Below.alloc ?_ (Nat.le_refl _) _)))
    (first
      | (go_at_call 33; refine (compare_any _ _ _).mono ?_; rintro e w' ⟨rfl, rfl⟩)
      | (go_at_call 32; refine (or_any _ (cmpI x.acct y.acct) (cmpI x.instr y.instr) r _ HR.out (by simp) (by simp)).mono ?_; rintro e w' ⟨rfl, rfl⟩))
  all_goals
    go_wp2
    go_ret
    refine ⟨rfl, HBL.out.trans (Below.mono (B := W.heap.size) ?_ hz)⟩
    repeat (first | with_reducible exact Below.refl _ _ | with_reducible refine Below.drew ?_ | with_reducible refine Below.alloc ?_ (Nat.le_refl _) _)

end Go.Proofs.Ytboehkcpgmpjjaa
