/- Walks over the leaves of package sess. -/
import Derived.Test.YtnbndhmdfheikaaRows
import Derived.Test.YtnbndhmdfheikaaPl
import Derived.WalkKit
import Derived.WalkSpells
import Derived.WalkLawsBesides
import Derived.Lib.Hide
namespace Go.Proofs.Ytnbndhmdfheikaa
open Go.RowKit

set_option maxHeartbeats 400000 in
theorem fits_any (s : ByteArray) (w : World) :
    Calls Try.prog 40 #[.string s] w fun e w' => e = .returned (.bool (fitsB s)) ∧ w = w' := by
  have hs := empty_iff s
  by_cases h0 : s.size = 0
  · have h : s.toList = [] := hs.2 h0
    have hf : fitsB s = false := by simp [fitsB, h0]
    rw [hf]
    clear hs hf
    go_enter Try.func40, Try.ntmps40
    go_wp2
    go_ret
    exact ⟨rfl, rfl⟩
  · have h : s.toList.isEmpty = false := by rw [List.isEmpty_eq_false_iff]; exact fun e => h0 (hs.1 e)
    have hf : fitsB s = decide ((s.size : Int) ≤ 4096) := by unfold fitsB; rw [Bool.eq_iff_iff]; simp; omega
    rw [hf]
    clear hs hf
    go_enter Try.func40, Try.ntmps40
    go_wp2
    go_ret
    exact ⟨by simp, rfl⟩

theorem unfit_any (s : ByteArray) (w : World) :
    Calls Try.prog 50 #[.string s] w fun e w' => e = .returned (.bool (!fitsB s)) ∧ w = w' := by
  go_enter Try.func50, Try.ntmps50
  go_wp2_with (go_at_call 40; refine (fits_any _ _).mono ?_; rintro e w' ⟨rfl, rfl⟩)
  go_ret
  exact ⟨rfl, rfl⟩

def AllFit (ss : List ByteArray) (e : Ending) : Prop := ∃ r : Int, e = .returned (.int .i64 r) ∧ decide (0 ≤ r) = !ss.all fitsB

theorem all_take_succ (ss : List ByteArray) (k : Nat) (h : k < ss.length) : (ss.take (k + 1)).all fitsB = ((ss.take k).all fitsB && fitsB ss[k]) := by
  rw [List.take_succ_eq_append_getElem h, List.all_append]; simp

set_option maxHeartbeats 400000 in
theorem index_any (A : Option Addr) (n c : Nat) (ss : List ByteArray) (w : World) (hn : n ≤ maxLen) (hr : Rd w w.heap.size 1 A n (ss.map Value.string)) :
    Calls Try.prog 54 #[.slice A n c, .func (.func 50) #[] #[]] w fun e w' => AllFit ss e ∧ w = w' := by
  unfold maxLen at hn
  have hl : ss.length = n := by simpa using hr.1
  have HL := Lib.hid hl
  go_enter Try.func54, Try.ntmps54
  clear hl
  go_wp2
  go_loop [8] (fun i => ∃ k : Nat, k ≤ n ∧ i = .int .i64 k ∧ (ss.take k).all fitsB = true) (fun i => n - (intOf i).toNat)
  case atStart => exact ⟨0, Nat.zero_le _, rfl, rfl⟩
  case round =>
    obtain ⟨k, hk, rfl, hall⟩ := hrel
    have HA := Lib.hid hall
    clear hall
    by_cases hlt : k < n
    · have hlt' : k < ss.length := by have := HL.out; omega
      obtain ⟨a, rfl, hb, hc⟩ := hr.cell (j := k) (u := .string (ss[k])) (by simp)
      have hs := all_take_succ ss k hlt'
      have HS := Lib.hid hs
      clear hs
      cases hf : fitsB ss[k]
      · have HF := Lib.hid hf
        go_wp2_with (go_at_call 50; refine (unfit_any _ _).mono ?_; rintro e w' ⟨rfl, rfl⟩)
        go_ret
        refine ⟨⟨k, rfl, ?_⟩, rfl⟩
        have h1 : ss.all fitsB = false := by
          rw [List.all_eq_false]
          exact ⟨ss[k], List.getElem_mem _, by rw [HF.out]; simp⟩
        rw [h1]; simp
      · have HF := Lib.hid hf
        go_wp2_with (go_at_call 50; refine (unfit_any _ _).mono ?_; rintro e w' ⟨rfl, rfl⟩)
        go_round
        case rel => exact ⟨k + 1, by omega, by go_num, by rw [HS.out, HA.out, HF.out]; rfl⟩
        case measure => simp [intOf]; omega
    · have hkn : ss.take k = ss := List.take_of_length_le (by have := HL.out; omega)
      have HK := Lib.hid hkn
      clear hkn
      go_wp2
      go_ret
      refine ⟨⟨-1, rfl, ?_⟩, rfl⟩
      have := HA.out
      rw [HK.out] at this
      rw [this]; rfl

theorem contains_any (A : Option Addr) (n c : Nat) (ss : List ByteArray) (w : World) (hn : n ≤ maxLen) (hr : Rd w w.heap.size 1 A n (ss.map Value.string)) :
    Calls Try.prog 49 #[.slice A n c, .func (.func 50) #[] #[]] w fun e w' => e = .returned (.bool (!ss.all fitsB)) ∧ w = w' := by
  go_enter Try.func49, Try.ntmps49
  go_wp2_with (go_at_call 54; refine (index_any A n c ss _ hn hr).mono ?_; rintro e w' ⟨⟨r, rfl, hd⟩, rfl⟩)
  go_ret
  exact ⟨rfl, rfl⟩

theorem good_true (s : Sd) (h1 : s.sent.length ≤ 256) (h2 : 0 ≤ s.known) (h3 : s.known ≤ s.sent.length) (h4 : 0 ≤ s.taken) (h5 : s.taken ≤ 1099511627776) : goodB s = s.sent.all fitsB := by
  simp [goodB, h1, h2, h3, h4, h5]
theorem good_false (s : Sd) (h : ¬ (s.sent.length ≤ 256 ∧ 0 ≤ s.known ∧ s.known ≤ s.sent.length ∧ 0 ≤ s.taken ∧ s.taken ≤ 1099511627776)) : goodB s = false := by
  simp only [goodB, decide_eq_false h, Bool.false_and]

theorem good_bad {n : Nat} {tk kn : Int} (hb : ¬ (n ≤ 256 ∧ 0 ≤ kn ∧ kn ≤ n ∧ 0 ≤ tk ∧ tk ≤ 1099511627776)) :
    256 < n ∨ (n ≤ 256 ∧ kn < 0) ∨ (n ≤ 256 ∧ 0 ≤ kn ∧ n < kn) ∨ (n ≤ 256 ∧ 0 ≤ kn ∧ kn ≤ n ∧ tk < 0) ∨ (n ≤ 256 ∧ 0 ≤ kn ∧ kn ≤ n ∧ 0 ≤ tk ∧ 1099511627776 < tk) := by omega

set_option maxHeartbeats 400000 in
theorem good_any (A : Option Addr) (n c : Nat) (s : Sd) (w : World) (hn : n ≤ maxLen) (hr : Rd w w.heap.size 1 A n (s.sent.map Value.string)) :
    Calls Try.prog 39 #[sideVal (.slice A n c) s] w fun e w' => e = .returned (.bool (goodB s)) ∧ Below w.heap.size w w' := by
  have hl : s.sent.length = n := by simpa using hr.1
  obtain ⟨ss, tk, kn⟩ := s
  dsimp only at hl
  by_cases hb : n ≤ 256 ∧ 0 ≤ kn ∧ kn ≤ n ∧ 0 ≤ tk ∧ tk ≤ 1099511627776
  · obtain ⟨h1, h2, h3, h4, h5⟩ := hb
    rw [good_true ⟨ss, tk, kn⟩ (by dsimp only; omega) h2 (by dsimp only; omega) h4 h5]
    have HR := (hr.alloc (Nat.le_refl _) (.cells #[.slice A n c, .int .i64 tk, .int .i64 kn] 33)).mono (B' := w.heap.size + 1) (by omega)
    clear hr hl
    unfold sideVal
    go_enter Try.func39, Try.ntmps39
    go_wp2_with (go_at_call 49; refine (contains_any A n c ss _ hn (by simpa using HR)).mono ?_; rintro e w' ⟨rfl, rfl⟩)
    go_ret
    exact ⟨by simp, (Below.refl _ _).alloc (Nat.le_refl _) _⟩
  · rw [good_false ⟨ss, tk, kn⟩ (by dsimp only; rw [hl]; exact hb)]
    clear hr hl
    unfold sideVal
    have h := good_bad hb
    clear hb
    rcases h with h | ⟨h1, h⟩ | ⟨h1, h2, h⟩ | ⟨h1, h2, h3, h⟩ | ⟨h1, h2, h3, h4, h⟩
    all_goals
      go_enter Try.func39, Try.ntmps39
      go_wp2
      go_ret
      exact ⟨rfl, (Below.refl _ _).alloc (Nat.le_refl _) _⟩

end Go.Proofs.Ytnbndhmdfheikaa
