/- Walks: Valid and Good of the document. -/
import Derived.Test.YtnbndhmdfheikaaW2
namespace Go.Proofs.Ytnbndhmdfheikaa
open Go.RowKit

theorem ret_bool {a b : Bool} (h : a = b) : Ending.returned (.bool a) = .returned (.bool b) := by rw [h]

theorem fits_split (b : ByteArray) : fitsB b = (decide ((0 : Int) < b.size) && decide ((b.size : Int) ≤ 4096)) := by
  unfold fitsB; rw [Bool.eq_iff_iff]; simp; omega

section
variable (n t : Int) (b : ByteArray) (w : World)
set_option maxHeartbeats 400000 in
theorem rvalid_1 (h1 : 0 ≤ n) (h2 : n ≤ 1099511627776) (h3 : 0 ≤ t) (h4 : t ≤ 1099511627776) :
    Calls Try.prog 53 #[(Fr.mk 1 n t b).val] w fun e w' => e = .returned (.bool (validB ⟨1, n, t, b⟩)) ∧ Below w.heap.size w w' := by
  rw [valid_on 1 n t b ⟨h1, h2, h3, h4⟩, if_pos rfl, fits_split]
  unfold Fr.val
  by_cases h5 : 1 ≤ n
  · rw [decide_eq_true h5, Bool.true_and]
    by_cases h6 : (0 : Int) < b.size
    · rw [decide_eq_true h6, Bool.true_and]
      go_enter Try.func53, Try.ntmps53
      go_wp2
      go_ret
      exact ⟨by simp, (Below.refl _ _).alloc (Nat.le_refl _) _⟩
    · rw [decide_eq_false h6, Bool.false_and]
      go_enter Try.func53, Try.ntmps53
      go_wp2
      go_ret
      exact ⟨rfl, (Below.refl _ _).alloc (Nat.le_refl _) _⟩
  · rw [decide_eq_false h5, Bool.false_and]
    go_enter Try.func53, Try.ntmps53
    go_wp2
    go_ret
    exact ⟨rfl, (Below.refl _ _).alloc (Nat.le_refl _) _⟩

set_option maxHeartbeats 400000 in
theorem rvalid_2 (h1 : 0 ≤ n) (h2 : n ≤ 1099511627776) (h3 : 0 ≤ t) (h4 : t ≤ 1099511627776) :
    Calls Try.prog 53 #[(Fr.mk 2 n t b).val] w fun e w' => e = .returned (.bool (validB ⟨2, n, t, b⟩)) ∧ Below w.heap.size w w' := by
  rw [valid_on 2 n t b ⟨h1, h2, h3, h4⟩, if_neg (by decide)]
  unfold Fr.val
  by_cases h0 : b.size = 0
  · rw [decide_eq_true h0, Bool.true_and]
    have H : ∀ x : Bool, x = decide (0 < n) → ((decide ((2 : Int) = 2) && decide (1 ≤ n)) || decide ((2 : Int) = 3)) = x := by
      rintro x rfl; simp; omega
    rw [H _ rfl]
    clear H
    go_enter Try.func53, Try.ntmps53
    go_wp2
    go_ret
    exact ⟨rfl, (Below.refl _ _).alloc (Nat.le_refl _) _⟩
  · rw [decide_eq_false h0, Bool.false_and]
    go_enter Try.func53, Try.ntmps53
    go_wp2
    go_ret
    exact ⟨rfl, (Below.refl _ _).alloc (Nat.le_refl _) _⟩

set_option maxHeartbeats 400000 in
theorem rvalid_3 (h1 : 0 ≤ n) (h2 : n ≤ 1099511627776) (h3 : 0 ≤ t) (h4 : t ≤ 1099511627776) :
    Calls Try.prog 53 #[(Fr.mk 3 n t b).val] w fun e w' => e = .returned (.bool (validB ⟨3, n, t, b⟩)) ∧ Below w.heap.size w w' := by
  rw [valid_on 3 n t b ⟨h1, h2, h3, h4⟩, if_neg (by decide)]
  unfold Fr.val
  by_cases h0 : b.size = 0
  · rw [decide_eq_true h0, Bool.true_and, show ((decide ((3 : Int) = 2) && decide (1 ≤ n)) || decide ((3 : Int) = 3)) = true by simp]
    go_enter Try.func53, Try.ntmps53
    go_wp2
    go_ret
    exact ⟨rfl, (Below.refl _ _).alloc (Nat.le_refl _) _⟩
  · rw [decide_eq_false h0, Bool.false_and]
    go_enter Try.func53, Try.ntmps53
    go_wp2
    go_ret
    exact ⟨rfl, (Below.refl _ _).alloc (Nat.le_refl _) _⟩

set_option maxHeartbeats 400000 in
theorem rvalid_4 (k : Int) (h1 : 0 ≤ n) (h2 : n ≤ 1099511627776) (h3 : 0 ≤ t) (h4 : t ≤ 1099511627776) (hk : k < 1 ∨ (1 ≤ k ∧ 3 < k)) :
    Calls Try.prog 53 #[(Fr.mk k n t b).val] w fun e w' => e = .returned (.bool (validB ⟨k, n, t, b⟩)) ∧ Below w.heap.size w w' := by
  rw [valid_on k n t b ⟨h1, h2, h3, h4⟩, if_neg (by omega), show (decide (b.size = 0) && ((decide (k = 2) && decide (1 ≤ n)) || decide (k = 3))) = false by
    rw [decide_eq_false (p := k = 2) (by omega), decide_eq_false (p := k = 3) (by omega)]; simp]
  unfold Fr.val
  rcases hk with h | ⟨h0, h⟩
  all_goals
    go_enter Try.func53, Try.ntmps53
    go_wp2
    go_ret
    exact ⟨rfl, (Below.refl _ _).alloc (Nat.le_refl _) _⟩

set_option maxHeartbeats 400000 in
theorem rvalid_5 (k : Int) (hb : ¬ (0 ≤ n ∧ n ≤ 1099511627776 ∧ 0 ≤ t ∧ t ≤ 1099511627776)) :
    Calls Try.prog 53 #[(Fr.mk k n t b).val] w fun e w' => e = .returned (.bool (validB ⟨k, n, t, b⟩)) ∧ Below w.heap.size w w' := by
  rw [valid_off k n t b hb]
  have h := valid_bad hb
  unfold Fr.val
  clear hb
  rcases h with h | ⟨h1, h⟩ | ⟨h1, h2, h⟩ | ⟨h1, h2, h3, h⟩
  all_goals
    go_enter Try.func53, Try.ntmps53
    go_wp2
    go_ret
    exact ⟨rfl, (Below.refl _ _).alloc (Nat.le_refl _) _⟩
end

theorem rvalid_any (f : Fr) (w : World) :
    Calls Try.prog 53 #[f.val] w fun e w' => e = .returned (.bool (validB f)) ∧ Below w.heap.size w w' := by
  obtain ⟨k, n, t, b⟩ := f
  by_cases hb : 0 ≤ n ∧ n ≤ 1099511627776 ∧ 0 ≤ t ∧ t ≤ 1099511627776
  · obtain ⟨h1, h2, h3, h4⟩ := hb
    by_cases k1 : k = 1
    · subst k1; exact rvalid_1 n t b w h1 h2 h3 h4
    by_cases k2 : k = 2
    · subst k2; exact rvalid_2 n t b w h1 h2 h3 h4
    by_cases k3 : k = 3
    · subst k3; exact rvalid_3 n t b w h1 h2 h3 h4
    exact rvalid_4 n t b w k h1 h2 h3 h4 (by omega)
  · exact rvalid_5 n t b w k hb

set_option maxHeartbeats 400000 in
theorem rgood_any (A : Option Addr) (n c : Nat) (s : Sd) (w : World) (_hn : n ≤ maxLen) (hr : Rd w w.heap.size 1 A n (s.sent.map Value.string)) :
    Calls Try.prog 51 #[sideVal (.slice A n c) s] w fun e w' => e = .returned (.bool (goodB s)) ∧ Below w.heap.size w w' := by
  have hl : s.sent.length = n := by simpa using hr.1
  obtain ⟨ss, tk, kn⟩ := s
  dsimp only at hl
  by_cases hb : n ≤ 256 ∧ 0 ≤ kn ∧ kn ≤ n ∧ 0 ≤ tk ∧ tk ≤ 1099511627776
  · obtain ⟨h1, h2, h3, h4, h5⟩ := hb
    rw [good_true ⟨ss, tk, kn⟩ (by dsimp only; omega) h2 (by dsimp only; omega) h4 h5]
    have HR := (hr.alloc (Nat.le_refl _) (.cells #[.slice A n c, .int .i64 tk, .int .i64 kn] 33)).mono (B' := w.heap.size + 1) (by omega)
    have HL := Lib.hid hl
    clear hr hl
    dsimp only at HR
    unfold sideVal
    go_enter Try.func51, Try.ntmps51
    go_wp2
    go_loop [35] (fun i => ∃ k : Nat, k ≤ n ∧ i = .int .i64 k ∧ (ss.take k).all fitsB = true) (fun i => n - (intOf i).toNat)
    case atStart => exact ⟨0, Nat.zero_le _, rfl, rfl⟩
    case round =>
      obtain ⟨k, hk, rfl, hall⟩ := hrel
      have HA := Lib.hid hall
      clear hall
      by_cases hlt : k < n
      · have hlt' : k < ss.length := by have := HL.out; omega
        obtain ⟨a, rfl, hb, hc⟩ := HR.cell (j := k) (u := .string (ss[k])) (by simp)
        have HS := Lib.hid (all_take_succ ss k hlt')
        have HF := Lib.hid (fits_split ss[k])
        by_cases h6 : (ss[k].size : Int) < 1
        · have hf : ss.all fitsB = false := by
            rw [List.all_eq_false]
            exact ⟨ss[k], List.getElem_mem _, by rw [HF.out, decide_eq_false (by omega)]; simp⟩
          have HF' := Lib.hid hf
          clear hf
          go_wp2
          go_ret
          exact ⟨ret_bool HF'.out.symm, (Below.refl _ _).alloc (Nat.le_refl _) _⟩
        · by_cases h7 : (4096 : Int) < ss[k].size
          · have hf : ss.all fitsB = false := by
              rw [List.all_eq_false]
              exact ⟨ss[k], List.getElem_mem _, by rw [HF.out, decide_eq_false (p := (ss[k].size : Int) ≤ 4096) (by omega)]; simp⟩
            have HF' := Lib.hid hf
            clear hf
            go_wp2
            go_ret
            exact ⟨ret_bool HF'.out.symm, (Below.refl _ _).alloc (Nat.le_refl _) _⟩
          · have hf : fitsB ss[k] = true := by rw [HF.out, decide_eq_true (by omega), decide_eq_true (by omega)]; rfl
            have HF' := Lib.hid hf
            clear hf
            go_wp2
            go_round
            case rel => exact ⟨k + 1, by omega, by go_num, by rw [HS.out, HA.out, HF'.out]; rfl⟩
            case measure => simp [intOf]; omega
      · have hkn : ss.take k = ss := List.take_of_length_le (by have := HL.out; omega)
        have HK := Lib.hid hkn
        clear hkn
        go_wp2
        go_ret
        have := HA.out
        rw [HK.out] at this
        exact ⟨ret_bool this.symm, (Below.refl _ _).alloc (Nat.le_refl _) _⟩
  · rw [good_false ⟨ss, tk, kn⟩ (by dsimp only; rw [hl]; exact hb)]
    clear hr hl
    unfold sideVal
    have h := good_bad hb
    clear hb
    rcases h with h | ⟨h1, h⟩ | ⟨h1, h2, h⟩ | ⟨h1, h2, h3, h⟩ | ⟨h1, h2, h3, h4, h⟩
    all_goals
      go_enter Try.func51, Try.ntmps51
      go_wp2
      go_ret
      exact ⟨rfl, (Below.refl _ _).alloc (Nat.le_refl _) _⟩

end Go.Proofs.Ytnbndhmdfheikaa
