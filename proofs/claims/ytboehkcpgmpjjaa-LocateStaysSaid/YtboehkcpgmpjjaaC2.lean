/- Walks: Held, Clone, Supply, Short, fits, bound. By gen_c2.py. -/
import Derived.Test.YtboehkcpgmpjjaaC1
namespace Go.Proofs.Ytboehkcpgmpjjaa
open Go.RowKit

theorem info3 : (Try.prog.info? 3).map (fun i => (i.zero, i.size, i.bytes)) = some (some (.int .i64 0), 1, 8) := by kernel_rfl
theorem info39 : (Try.prog.info? 39).map (fun i => (i.zero, i.size, i.bytes)) = some (some (.agg #[.int .i64 0, .int .i64 0, .int .i64 0]), 3, 24) := by kernel_rfl

/-- A cell of a row put anew. -/
theorem own_put {w : World} {base e size n c : Nat} {a : Addr} {xs : List Value} (h : w.ownsRow base e size (.slice (some a) n c) n xs) (j : Nat) (v : Value) : (w.setCell (a.add j) v).ownsRow base e size (.slice (some a) n c) n (xs.set j v) := by
  rcases h with ⟨hl, ⟨hv, h0⟩ | ⟨g, cap, cur, hv, hb, hh, h1, h2, h3, h4⟩⟩
  · cases hv
  · injection hv with a1 a2 a3
    injection a1 with a1
    subst a1 a3
    have hB : Bk w g e cur := hh
    have ha : (⟨g, 0, none⟩ : Addr).add j = ⟨g, j, none⟩ := by
      unfold Addr.add
      split
      · simp_all
      · simp
    rw [ha]
    refine ⟨by rw [List.length_set]; exact hl, .inr ⟨g, c, _, rfl, hb, hB.set j v, h1, h2, by simp [h3], ?_⟩⟩
    rw [← h4]
    simp [List.take_set]
theorem ints_set (l : List Int) (k : Nat) (v : Int) : (ints l).set k (.int .i64 v) = ints (l.set k v) := by simp [ints, List.map_set]
theorem all_at {l : List Int} (h : l.all fitsQ = true) {k : Nat} (hk : k < l.length) : 0 ≤ l[k] ∧ l[k] ≤ 1000000000 := by
  have := List.all_eq_true.1 h _ (List.getElem_mem hk)
  simpa [fitsQ] using this

theorem fits_any (q : Int) (w : World) : Calls Try.prog 22 #[.int .i64 q] w fun e w' => e = .returned (.bool (fitsQ q)) ∧ w' = w := by
  obtain ⟨r, hr⟩ : ∃ r, r = fitsQ q := ⟨_, rfl⟩
  rw [← hr]
  have HR := Lib.hid hr
  clear hr
  go_enter Try.func22, Try.ntmps22
  by_cases h1 : 0 ≤ q
  · by_cases h2 : q ≤ 1000000000
    · have e : r = true := by rw [HR.out]; simp [fitsQ, h1, h2]
      subst e
      go_wp2
      go_ret
      exact ⟨rfl, rfl⟩
    · have e : r = false := by rw [HR.out]; simp [fitsQ]; omega
      subst e
      go_wp2
      go_ret
      exact ⟨rfl, rfl⟩
  · have e : r = false := by rw [HR.out]; simp [fitsQ]; omega
    subst e
    go_wp2
    go_ret
    exact ⟨rfl, rfl⟩

def boundQ (q : Int) : Bool := decide (-1000000000 ≤ q ∧ q ≤ 1000000000)
theorem bound_any (q : Int) (w : World) : Calls Try.prog 24 #[.int .i64 q] w fun e w' => e = .returned (.bool (boundQ q)) ∧ w' = w := by
  obtain ⟨r, hr⟩ : ∃ r, r = boundQ q := ⟨_, rfl⟩
  rw [← hr]
  have HR := Lib.hid hr
  clear hr
  go_enter Try.func24, Try.ntmps24
  by_cases h1 : -1000000000 ≤ q
  · by_cases h2 : q ≤ 1000000000
    · have e : r = true := by rw [HR.out]; simp [boundQ, h1, h2]
      subst e
      go_wp2
      go_ret
      exact ⟨rfl, rfl⟩
    · have e : r = false := by rw [HR.out]; simp [boundQ]; omega
      subst e
      go_wp2
      go_ret
      exact ⟨rfl, rfl⟩
  · have e : r = false := by rw [HR.out]; simp [boundQ]; omega
    subst e
    go_wp2
    go_ret
    exact ⟨rfl, rfl⟩

set_option maxHeartbeats 1000000 in
theorem held_any (A : Option Addr) (n c : Nat) (l : List Lc) (a i : Int) (w : World) (hn : n ≤ maxLen) (hr : Rd w w.heap.size 3 A n (lcs l)) :
    Calls Try.prog 13 #[.slice A n c, .int .i64 a, .int .i64 i] w fun e w' => e = .returned (.int .i64 (heldL l a i)) ∧ Below w.heap.size w w' := by
  have hl : l.length = n := by have := hr.1; rw [lcs_len] at this; omega
  have HL := Lib.hid hl
  have HR := Lib.hid hr
  clear hl hr
  unfold maxLen at hn
  obtain ⟨r, hres⟩ : ∃ r, r = heldL l a i := ⟨_, rfl⟩
  rw [← hres]
  have HE := Lib.hid hres
  clear hres
  go_enter Try.func13, Try.ntmps13
  go_wp2
  go_loopw [11] (fun v wr => ∃ k : Nat, k ≤ n ∧ v = .int .i64 k ∧ (∀ j, j < k → keyB a i (l.getD j default) = false) ∧ Below w.heap.size w wr) (fun v _ => n - (intOf v).toNat)
  case atStart => exact ⟨0, Nat.zero_le _, rfl, fun j hj => absurd hj (Nat.not_lt_zero _), Below.refl _ _⟩
  case round =>
    obtain ⟨k, hk, rfl, hpre, hb⟩ := hrel
    have HP := Lib.hid hpre
    have HB := Lib.hid hb
    clear hpre hb
    rename World => V
    by_cases hlt : k < n
    · have hkl : k < l.length := by have := HL.out; omega
      obtain ⟨a0, hA, hb0, c0, c1, c2⟩ := (HR.out.below HB.out).loc hkl
      subst hA
      obtain ⟨⟨xa, xi, xq⟩, hx⟩ : ∃ x, x = l[k] := ⟨_, rfl⟩
      rw [← hx] at c0 c1 c2
      have HX : Hid (l.getD k default = ⟨xa, xi, xq⟩) := by rw [hx]; exact getD_lt hkl
      dsimp only at c0 c1 c2
      clear hx hb0
      have i1 : (k : Int) < (n : Int) := by omega
      have i2 : (0 : Int) ≤ (k : Int) := by omega
      have i3 : IntKind.i64.wrap ((k : Int) + 1) = (k : Int) + 1 := IntWalk.i64_in _ (by omega)
      by_cases ha : xa = a
      · by_cases hi : xi = i
        · subst ha hi
          have e : r = xq := by
            rw [HE.out, heldL_hit hkl HP.out (by rw [HX.out]; simp [keyB]), HX.out]
          subst e
          go_wp2
          go_ret
          exact ⟨rfl, HB.out.alloc HB.out.size _⟩
        · subst ha
          go_wp2
          refine ⟨⟨k + 1, by omega, by push_cast; rfl, fun j hj => ?_, HB.out.alloc HB.out.size _⟩, by simp only [intOf]; omega⟩
          rcases Nat.lt_or_eq_of_le (Nat.lt_succ_iff.1 hj) with h1 | rfl
          · exact HP.out j h1
          · rw [HX.out]; simp [keyB, hi]
      · go_wp2
        refine ⟨⟨k + 1, by omega, by push_cast; rfl, fun j hj => ?_, HB.out.alloc HB.out.size _⟩, by simp only [intOf]; omega⟩
        rcases Nat.lt_or_eq_of_le (Nat.lt_succ_iff.1 hj) with h1 | rfl
        · exact HP.out j h1
        · rw [HX.out]; simp [keyB, ha]
    · have i3 : ¬ ((k : Int) < (n : Int)) := by omega
      have hkn : k = n := by omega
      have e : r = 0 := by
        rw [HE.out]
        exact heldL_none fun j hj => HP.out j (by have := HL.out; omega)
      subst e
      go_wp2
      go_ret
      exact ⟨rfl, HB.out⟩

set_option maxHeartbeats 1000000 in
theorem rheld_any (A : Option Addr) (n c : Nat) (l : List Lc) (a i : Int) (w : World) (hn : n ≤ maxLen) (hr : Rd w w.heap.size 3 A n (lcs l)) :
    Calls Try.prog 14 #[.slice A n c, .int .i64 a, .int .i64 i] w fun e w' => e = .returned (.int .i64 (heldL l a i)) ∧ Below w.heap.size w w' := by
  have hl : l.length = n := by have := hr.1; rw [lcs_len] at this; omega
  have HL := Lib.hid hl
  have HR := Lib.hid hr
  clear hl hr
  unfold maxLen at hn
  obtain ⟨r, hres⟩ : ∃ r, r = heldL l a i := ⟨_, rfl⟩
  rw [← hres]
  have HE := Lib.hid hres
  clear hres
  go_enter Try.func14, Try.ntmps14
  go_wp2
  go_loopw [11] (fun v wr => ∃ k : Nat, k ≤ n ∧ v = .int .i64 k ∧ (∀ j, j < k → keyB a i (l.getD j default) = false) ∧ Below w.heap.size w wr) (fun v _ => n - (intOf v).toNat)
  case atStart => exact ⟨0, Nat.zero_le _, rfl, fun j hj => absurd hj (Nat.not_lt_zero _), Below.refl _ _⟩
  case round =>
    obtain ⟨k, hk, rfl, hpre, hb⟩ := hrel
    have HP := Lib.hid hpre
    have HB := Lib.hid hb
    clear hpre hb
    rename World => V
    by_cases hlt : k < n
    · have hkl : k < l.length := by have := HL.out; omega
      obtain ⟨a0, hA, hb0, c0, c1, c2⟩ := (HR.out.below HB.out).loc hkl
      subst hA
      obtain ⟨⟨xa, xi, xq⟩, hx⟩ : ∃ x, x = l[k] := ⟨_, rfl⟩
      rw [← hx] at c0 c1 c2
      have HX : Hid (l.getD k default = ⟨xa, xi, xq⟩) := by rw [hx]; exact getD_lt hkl
      dsimp only at c0 c1 c2
      clear hx hb0
      have i1 : (k : Int) < (n : Int) := by omega
      have i2 : (0 : Int) ≤ (k : Int) := by omega
      have i3 : IntKind.i64.wrap ((k : Int) + 1) = (k : Int) + 1 := IntWalk.i64_in _ (by omega)
      by_cases ha : xa = a
      · by_cases hi : xi = i
        · subst ha hi
          have e : r = xq := by
            rw [HE.out, heldL_hit hkl HP.out (by rw [HX.out]; simp [keyB]), HX.out]
          subst e
          go_wp2
          go_ret
          exact ⟨rfl, HB.out.alloc HB.out.size _⟩
        · subst ha
          go_wp2
          refine ⟨⟨k + 1, by omega, by push_cast; rfl, fun j hj => ?_, HB.out.alloc HB.out.size _⟩, by simp only [intOf]; omega⟩
          rcases Nat.lt_or_eq_of_le (Nat.lt_succ_iff.1 hj) with h1 | rfl
          · exact HP.out j h1
          · rw [HX.out]; simp [keyB, hi]
      · go_wp2
        refine ⟨⟨k + 1, by omega, by push_cast; rfl, fun j hj => ?_, HB.out.alloc HB.out.size _⟩, by simp only [intOf]; omega⟩
        rcases Nat.lt_or_eq_of_le (Nat.lt_succ_iff.1 hj) with h1 | rfl
        · exact HP.out j h1
        · rw [HX.out]; simp [keyB, ha]
    · have i3 : ¬ ((k : Int) < (n : Int)) := by omega
      have hkn : k = n := by omega
      have e : r = 0 := by
        rw [HE.out]
        exact heldL_none fun j hj => HP.out j (by have := HL.out; omega)
      subst e
      go_wp2
      go_ret
      exact ⟨rfl, HB.out⟩

/-- What a copy leaves. -/
theorem cloneI_any (A : Option Addr) (n c : Nat) (xs : List Value) (w : World) (h1c : ∀ u ∈ xs, u.oneCell' = true) (hn : n * 8 ≤ 140737488355328) (hr : Rd w w.heap.size 1 A n xs) :
    Calls Try.prog 23 #[.slice A n c] w fun r w' => ∃ A' c', r = .returned (.slice A' n c') ∧ n ≤ c' ∧ c' ≤ maxLen ∧ w'.ownsRow w.heap.size 3 1 (.slice A' n c') n xs ∧ Below w.heap.size w w' := by
  have hk := fun W => Lib.run_eql_slice_nil (P := Try.prog) W 22 3 A n c 0 0 Try.underlying22
  obtain ⟨i0, hi, hz0, hz1, hz2⟩ := info_parts info3
  rcases A with _ | a
  · have h0 : n = 0 := by
      rcases Nat.eq_zero_or_pos n with h0 | h0
      · exact h0
      · obtain ⟨_, h, _⟩ := hr.2 h0
        cases h
    subst h0
    have hs : xs = [] := List.eq_nil_of_length_eq_zero (by simpa using hr.1)
    subst hs
    go_enter Try.func23, Try.ntmps23
    go_wp2
    go_ret
    exact ⟨none, 0, rfl, Nat.le_refl _, Nat.zero_le _, World.ownsRow_nil _ _ _ _, Below.refl _ _⟩
  · have hown : (w.alloc (.cells #[] 3)).ownsRow w.heap.size 3 1 (.slice (some ⟨w.heap.size, 0, none⟩) 0 0) 0 [] := ⟨by simp, .inr ⟨w.heap.size, 0, #[], rfl, Nat.le_refl _, Bk.new _ _ _, Nat.le_refl _, Nat.zero_le _, by simp, by simp⟩⟩
    have hr1 : Rd (w.alloc (.cells #[] 3)) w.heap.size 1 (some a) n xs := hr.alloc (Nat.le_refl _) _
    go_enter Try.func23, Try.ntmps23
    go_wp2_with (at_builtin; go_must (refine wpList_append_rd _ rfl (.tmp 5) (.tmp 6) _ rfl w.heap.size 3 i0 _ 1 8 Try.underlying22 hi hz0 hz1 hz2 rfl (by omega) _ 0 [] rfl hown w.heap.size (some a) n c _ rfl hr1 h1c (by simp only [maxLen]; omega) (by omega) (by simp) ?_); intro A1 c1 w1 h1 h2 hown1 hg1 hat1)
    go_ret
    refine ⟨A1, c1, by simp, by omega, h2, by simpa using hown1, ((Below.refl w.heap.size w).alloc (Nat.le_refl _) _).grown hg1 (by simp) ?_⟩
    intro k hk'
    exact Nat.le_of_eq (Option.some.inj hk')

/-- What a copy leaves. -/
theorem cloneL_any (A : Option Addr) (n c : Nat) (xs : List Value) (w : World) (h1c : ∀ u ∈ xs, u.oneCell' = true) (hn : n * 24 ≤ 140737488355328) (hr : Rd w w.heap.size 3 A n xs) :
    Calls Try.prog 25 #[.slice A n c] w fun r w' => ∃ A' c', r = .returned (.slice A' n c') ∧ n ≤ c' ∧ c' ≤ maxLen ∧ w'.ownsRow w.heap.size 39 3 (.slice A' n c') n xs ∧ Below w.heap.size w w' := by
  have hk := fun W => Lib.run_eql_slice_nil (P := Try.prog) W 23 39 A n c 0 0 Try.underlying23
  obtain ⟨i0, hi, hz0, hz1, hz2⟩ := info_parts info39
  rcases A with _ | a
  · have h0 : n = 0 := by
      rcases Nat.eq_zero_or_pos n with h0 | h0
      · exact h0
      · obtain ⟨_, h, _⟩ := hr.2 h0
        cases h
    subst h0
    have hs : xs = [] := List.eq_nil_of_length_eq_zero (by simpa using hr.1)
    subst hs
    go_enter Try.func25, Try.ntmps25
    go_wp2
    go_ret
    exact ⟨none, 0, rfl, Nat.le_refl _, Nat.zero_le _, World.ownsRow_nil _ _ _ _, Below.refl _ _⟩
  · have hown : (w.alloc (.cells #[] 39)).ownsRow w.heap.size 39 3 (.slice (some ⟨w.heap.size, 0, none⟩) 0 0) 0 [] := ⟨by simp, .inr ⟨w.heap.size, 0, #[], rfl, Nat.le_refl _, Bk.new _ _ _, Nat.le_refl _, Nat.zero_le _, by simp, by simp⟩⟩
    have hr1 : Rd (w.alloc (.cells #[] 39)) w.heap.size 3 (some a) n xs := hr.alloc (Nat.le_refl _) _
    go_enter Try.func25, Try.ntmps25
    go_wp2_with (at_builtin; go_must (refine wpList_append_rd _ rfl (.tmp 5) (.tmp 6) _ rfl w.heap.size 39 i0 _ 3 24 Try.underlying23 hi hz0 hz1 hz2 rfl (by omega) _ 0 [] rfl hown w.heap.size (some a) n c _ rfl hr1 h1c (by simp only [maxLen]; omega) (by omega) (by simp) ?_); intro A1 c1 w1 h1 h2 hown1 hg1 hat1)
    go_ret
    refine ⟨A1, c1, by simp, by omega, h2, by simpa using hown1, ((Below.refl w.heap.size w).alloc (Nat.le_refl _) _).grown hg1 (by simp) ?_⟩
    intro k hk'
    exact Nat.le_of_eq (Option.some.inj hk')

theorem short_any (p s q : Int) (w : World) (hp : -1000000000 ≤ p ∧ p ≤ 1000000000) (hs : 0 ≤ s ∧ s ≤ 1099511627776) (hq : -1000000000 ≤ q) :
    Calls Try.prog 18 #[.int .i64 p, .int .i64 s, .int .i64 q] w fun e w' => e = .returned (.int .i64 (if 0 ≤ q then 0 else if s - q - p < 0 then 0 else s - q - p)) ∧ w' = w := by
  by_cases h0 : 0 ≤ q
  · rw [if_pos h0]
    go_enter Try.func18, Try.ntmps18
    go_wp2
    go_ret
    exact ⟨rfl, rfl⟩
  rw [if_neg h0]
  have i1 : IntKind.i64.wrap (s - q) = s - q := IntWalk.i64_in _ (by omega)
  have i2 : IntKind.i64.wrap (s - q - p) = s - q - p := IntWalk.i64_in _ (by omega)
  have h0' : ¬ (q ≥ 0) := by omega
  by_cases h1 : s - q - p < 0
  · rw [if_pos h1]
    go_enter Try.func18, Try.ntmps18
    go_wp2
    go_ret
    exact ⟨rfl, rfl⟩
  · rw [if_neg h1]
    go_enter Try.func18, Try.ntmps18
    go_wp2
    go_ret
    exact ⟨rfl, rfl⟩
theorem rshort_any (p s q : Int) (w : World) (hp : -1000000000 ≤ p ∧ p ≤ 1000000000) (hs : 0 ≤ s ∧ s ≤ 1099511627776) (hq : -1000000000 ≤ q) :
    Calls Try.prog 19 #[.int .i64 p, .int .i64 s, .int .i64 q] w fun e w' => e = .returned (.int .i64 (if 0 ≤ q then 0 else if s - q - p < 0 then 0 else s - q - p)) ∧ w' = w := by
  by_cases h0 : 0 ≤ q
  · rw [if_pos h0]
    go_enter Try.func19, Try.ntmps19
    go_wp2
    go_ret
    exact ⟨rfl, rfl⟩
  rw [if_neg h0]
  have i1 : IntKind.i64.wrap (s - q) = s - q := IntWalk.i64_in _ (by omega)
  have i2 : IntKind.i64.wrap (s - q - p) = s - q - p := IntWalk.i64_in _ (by omega)
  have h0' : ¬ (q ≥ 0) := by omega
  by_cases h1 : s - q - p < 0
  · rw [if_pos h1]
    go_enter Try.func19, Try.ntmps19
    go_wp2
    go_ret
    exact ⟨rfl, rfl⟩
  · rw [if_neg h1]
    go_enter Try.func19, Try.ntmps19
    go_wp2
    go_ret
    exact ⟨rfl, rfl⟩

end Go.Proofs.Ytboehkcpgmpjjaa
