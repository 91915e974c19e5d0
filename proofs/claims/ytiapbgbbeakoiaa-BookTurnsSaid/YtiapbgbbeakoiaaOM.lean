/- Walk: two lists are the same. By gen_s.py. -/
import Derived.Test.YtiapbgbbeakoiaaOK
namespace Go.Proofs.Ytiapbgbbeakoiaa.O
open Go.RowKit

theorem fields38 : Try.prog.underlying 38 = some (.struct (Try.prog.fieldsOf 38)) := by kernel_rfl
set_option maxHeartbeats 1000000 in
theorem same_any (A B : Option Addr) (n c d : Nat) (l : List Lc) (w : World) (hl : l.length = n) (hn : n ≤ maxLen) (ha : Rd w w.heap.size 5 A n (lcs l)) (hb : Rd w w.heap.size 5 B n (lcs l)) :
    Calls Try.prog 20 #[.slice A n c, .slice B n d] w fun e w' => e = .returned (.bool true) ∧ ∃ m, w' = w.drewN m := by
  unfold maxLen at hn
  have HL := Lib.hid hl
  clear hl
  go_enter Try.func20, Try.ntmps20
  go_wp2
  go_loopw [13] (fun i wr => ∃ k : Nat, k ≤ n ∧ i = .int .i64 k ∧ ∃ m, wr = w.drewN m) (fun i _ => n - (intOf i).toNat)
  case atStart => exact ⟨0, Nat.zero_le _, rfl, 0, rfl⟩
  case round =>
    obtain ⟨k, hk, rfl, m, rfl⟩ := hrel
    by_cases hlt : k < n
    · have hlt' : k < l.length := by have := HL.out; omega
      obtain ⟨a, rfl, _, c0, c1, c2, c3, c4⟩ := rd_loc ha hlt'
      obtain ⟨b, rfl, _, d0, d1, d2, d3, d4⟩ := rd_loc hb hlt'
      have i1 : (0 : Int) ≤ (k : Int) := by omega
      have i2 : (k : Int) < (n : Int) := by omega
      go_wp2_with fail
      go_quiet (fail)
      go_wp2
      go_roundw
      case rel => exact ⟨k + 1, by omega, by go_num, _, rfl⟩
      case measure => simp [intOf]; omega
    · go_wp2
      go_ret
      exact ⟨rfl, _, rfl⟩

end Go.Proofs.Ytiapbgbbeakoiaa.O
