/- Walks: Qty. By gen_c.py. -/
import Derived.Test.YtiapbgbbeakoiaaPK
namespace Go.Proofs.Ytiapbgbbeakoiaa.P
open Go.RowKit

/-- The first one's, or nought. -/
def qtyL (l : List Lc) (a i : Int) : Int := match l.find? (fun x => x.is a i) with | some x => x.qty | none => 0
theorem find_hit {l : List Lc} {a i : Int} {k : Nat} (hk : k < l.length) (hpre : ∀ j, j < k → (l.getD j default).is a i = false) (h : (l.getD k default).is a i = true) : l.find? (fun x => x.is a i) = some (l.getD k default) := by
  rw [getD_lt hk] at h ⊢
  refine List.find?_eq_some_iff_getElem.2 ⟨h, k, hk, rfl, fun j hj => ?_⟩
  have := hpre j hj
  rw [getD_lt (by omega)] at this
  simp [this]
theorem qtyL_hit {l : List Lc} {a i : Int} {k : Nat} (hk : k < l.length) (hpre : ∀ j, j < k → (l.getD j default).is a i = false) (h : (l.getD k default).is a i = true) : qtyL l a i = (l.getD k default).qty := by
  unfold qtyL
  rw [find_hit hk hpre h]
theorem qtyL_none {l : List Lc} {a i : Int} (hpre : ∀ j, j < l.length → (l.getD j default).is a i = false) : qtyL l a i = 0 := by
  unfold qtyL
  rw [List.find?_eq_none.2]
  intro x hx
  obtain ⟨j, hj, rfl⟩ := List.mem_iff_getElem.1 hx
  have := hpre j hj
  rw [getD_lt hj] at this
  simp [this]

set_option maxHeartbeats 1000000 in
theorem qty_any (A : Option Addr) (n c : Nat) (l : List Lc) (a i : Int) (w : World) (hn : n ≤ maxLen) (hr : Rd w w.heap.size 3 A n (lcs l)) :
    Calls Try.prog 14 #[.slice A n c, .int .i64 a, .int .i64 i] w fun e w' => e = .returned (.int .i64 (qtyL l a i)) ∧ Below w.heap.size w w' := by
  have hl : l.length = n := by have := hr.1; rw [lcs_len] at this; omega
  have HL := Lib.hid hl
  have HR := Lib.hid hr
  clear hl hr
  unfold maxLen at hn
  obtain ⟨r, hres⟩ : ∃ r, r = qtyL l a i := ⟨_, rfl⟩
  rw [← hres]
  have HE := Lib.hid hres
  clear hres
  go_enter Try.func14, Try.ntmps14
  go_wp2
  go_loopw [11] (fun v wr => ∃ k : Nat, k ≤ n ∧ v = .int .i64 k ∧ (∀ j, j < k → (l.getD j default).is a i = false) ∧ Below w.heap.size w wr) (fun v _ => n - (intOf v).toNat)
  case atStart => exact ⟨0, Nat.zero_le _, rfl, fun j hj => absurd hj (Nat.not_lt_zero _), Below.refl _ _⟩
  case round =>
    obtain ⟨k, hk, rfl, hpre, hb⟩ := hrel
    have HP := Lib.hid hpre
    have HB := Lib.hid hb
    clear hpre hb
    rename World => V
    by_cases hlt : k < n
    · have hkl : k < l.length := by have := HL.out; omega
      obtain ⟨a0, hA, hb0, c0, c1, c2⟩ := rd_loc (HR.out.below HB.out) hkl
      subst hA
      obtain ⟨⟨xa, xi, xq⟩, hx⟩ : ∃ x, x = l[k] := ⟨_, rfl⟩
      rw [← hx] at c0 c1 c2
      have HX : Hid (l.getD k default = ⟨xa, xi, xq⟩) := by rw [hx]; exact getD_lt hkl
      dsimp only at c0 c1 c2
      clear hx hb0
      have i1 : (k : Int) < (n : Int) := by omega
      have i2 : (0 : Int) ≤ (k : Int) := by omega
      have i3 : IntKind.i64.wrap ((k : Int) + 1) = (k : Int) + 1 := IntWalk.i64_in _ (by omega)
      by_cases ha : xa = a
      · by_cases hi : xi = i
        · subst ha hi
          have e : r = xq := by
            rw [HE.out, qtyL_hit hkl HP.out (by rw [HX.out]; simp [Lc.is]), HX.out]
          subst e
          go_wp2
          go_ret
          exact ⟨rfl, HB.out.alloc HB.out.size _⟩
        · subst ha
          go_wp2
          refine ⟨⟨k + 1, by omega, by push_cast; rfl, fun j hj => ?_, HB.out.alloc HB.out.size _⟩, by simp only [intOf]; omega⟩
          rcases Nat.lt_or_eq_of_le (Nat.lt_succ_iff.1 hj) with h1 | rfl
          · exact HP.out j h1
          · rw [HX.out]; simp [Lc.is, hi]
      · go_wp2
        refine ⟨⟨k + 1, by omega, by push_cast; rfl, fun j hj => ?_, HB.out.alloc HB.out.size _⟩, by simp only [intOf]; omega⟩
        rcases Nat.lt_or_eq_of_le (Nat.lt_succ_iff.1 hj) with h1 | rfl
        · exact HP.out j h1
        · rw [HX.out]; simp [Lc.is, ha]
    · have i3 : ¬ ((k : Int) < (n : Int)) := by omega
      have hkn : k = n := by omega
      have e : r = 0 := by
        rw [HE.out]
        exact qtyL_none fun j hj => HP.out j (by have := HL.out; omega)
      subst e
      go_wp2
      go_ret
      exact ⟨rfl, HB.out⟩

set_option maxHeartbeats 1000000 in
theorem rqty_any (A : Option Addr) (n c : Nat) (l : List Lc) (a i : Int) (w : World) (hn : n ≤ maxLen) (hr : Rd w w.heap.size 3 A n (lcs l)) :
    Calls Try.prog 15 #[.slice A n c, .int .i64 a, .int .i64 i] w fun e w' => e = .returned (.int .i64 (qtyL l a i)) ∧ Below w.heap.size w w' := by
  have hl : l.length = n := by have := hr.1; rw [lcs_len] at this; omega
  have HL := Lib.hid hl
  have HR := Lib.hid hr
  clear hl hr
  unfold maxLen at hn
  obtain ⟨r, hres⟩ : ∃ r, r = qtyL l a i := ⟨_, rfl⟩
  rw [← hres]
  have HE := Lib.hid hres
  clear hres
  go_enter Try.func15, Try.ntmps15
  go_wp2
  go_loopw [11] (fun v wr => ∃ k : Nat, k ≤ n ∧ v = .int .i64 k ∧ (∀ j, j < k → (l.getD j default).is a i = false) ∧ Below w.heap.size w wr) (fun v _ => n - (intOf v).toNat)
  case atStart => exact ⟨0, Nat.zero_le _, rfl, fun j hj => absurd hj (Nat.not_lt_zero _), Below.refl _ _⟩
  case round =>
    obtain ⟨k, hk, rfl, hpre, hb⟩ := hrel
    have HP := Lib.hid hpre
    have HB := Lib.hid hb
    clear hpre hb
    rename World => V
    by_cases hlt : k < n
    · have hkl : k < l.length := by have := HL.out; omega
      obtain ⟨a0, hA, hb0, c0, c1, c2⟩ := rd_loc (HR.out.below HB.out) hkl
      subst hA
      obtain ⟨⟨xa, xi, xq⟩, hx⟩ : ∃ x, x = l[k] := ⟨_, rfl⟩
      rw [← hx] at c0 c1 c2
      have HX : Hid (l.getD k default = ⟨xa, xi, xq⟩) := by rw [hx]; exact getD_lt hkl
      dsimp only at c0 c1 c2
      clear hx hb0
      have i1 : (k : Int) < (n : Int) := by omega
      have i2 : (0 : Int) ≤ (k : Int) := by omega
      have i3 : IntKind.i64.wrap ((k : Int) + 1) = (k : Int) + 1 := IntWalk.i64_in _ (by omega)
      by_cases ha : xa = a
      · by_cases hi : xi = i
        · subst ha hi
          have e : r = xq := by
            rw [HE.out, qtyL_hit hkl HP.out (by rw [HX.out]; simp [Lc.is]), HX.out]
          subst e
          go_wp2
          go_ret
          exact ⟨rfl, HB.out.alloc HB.out.size _⟩
        · subst ha
          go_wp2
          refine ⟨⟨k + 1, by omega, by push_cast; rfl, fun j hj => ?_, HB.out.alloc HB.out.size _⟩, by simp only [intOf]; omega⟩
          rcases Nat.lt_or_eq_of_le (Nat.lt_succ_iff.1 hj) with h1 | rfl
          · exact HP.out j h1
          · rw [HX.out]; simp [Lc.is, hi]
      · go_wp2
        refine ⟨⟨k + 1, by omega, by push_cast; rfl, fun j hj => ?_, HB.out.alloc HB.out.size _⟩, by simp only [intOf]; omega⟩
        rcases Nat.lt_or_eq_of_le (Nat.lt_succ_iff.1 hj) with h1 | rfl
        · exact HP.out j h1
        · rw [HX.out]; simp [Lc.is, ha]
    · have i3 : ¬ ((k : Int) < (n : Int)) := by omega
      have hkn : k = n := by omega
      have e : r = 0 := by
        rw [HE.out]
        exact qtyL_none fun j hj => HP.out j (by have := HL.out; omega)
      subst e
      go_wp2
      go_ret
      exact ⟨rfl, HB.out⟩


end Go.Proofs.Ytiapbgbbeakoiaa.P
