/- Walks: the document's Find; Selling, the program's and the document's. -/
import Derived.Test.YtiapbgbbeakoiaaOR
namespace Go.Proofs.Ytiapbgbbeakoiaa.O
open Go.RowKit

set_option maxHeartbeats 1000000 in
theorem rfind_any (A : Option Addr) (n c : Nat) (l : List Lc) (a i : Int) (w : World) (hn : n ≤ maxLen) (hr : Rd w w.heap.size 5 A n (lcs l)) :
    Calls Try.prog 27 #[.slice A n c, .int .i64 a, .int .i64 i] w fun e w' => e = .returned (.int .i64 (findL l a i)) ∧ Below w.heap.size w w' := by
  have hl : l.length = n := by have := hr.1; rw [lcs_len] at this; omega
  have HL := Lib.hid hl
  have HR := Lib.hid hr
  clear hl hr
  unfold maxLen at hn
  obtain ⟨r, hres⟩ : ∃ r, r = findL l a i := ⟨_, rfl⟩
  rw [← hres]
  have HE := Lib.hid hres
  clear hres
  go_enter Try.func27, Try.ntmps27
  go_wp2
  go_loopw [11] (fun v wr => ∃ k : Nat, k ≤ n ∧ v = .int .i64 k ∧ (∀ j, j < k → (l.getD j default).is a i = false) ∧ Below w.heap.size w wr) (fun v _ => n - (intOf v).toNat)
  case atStart => exact ⟨0, Nat.zero_le _, rfl, fun j hj => absurd hj (Nat.not_lt_zero _), Below.refl _ _⟩
  case round =>
    obtain ⟨k, hk, rfl, hpre, hb⟩ := hrel
    have HP := Lib.hid hpre
    have HB := Lib.hid hb
    clear hpre hb
    rename World => V
    by_cases hlt : k < n
    · have hkl : k < l.length := by have := HL.out; omega
      obtain ⟨a0, hA, hb0, c0, c1, c2, c3, c4⟩ := rd_loc (HR.out.below HB.out) hkl
      subst hA
      obtain ⟨⟨xa, xd, xi, xq, xp⟩, hx⟩ : ∃ x, x = l[k] := ⟨_, rfl⟩
      rw [← hx] at c0 c1 c2 c3 c4
      have HX : Hid (l.getD k default = ⟨xa, xd, xi, xq, xp⟩) := by rw [hx]; exact getD_lt hkl
      dsimp only at c0 c1 c2 c3 c4
      clear hx hb0
      have i1 : (k : Int) < (n : Int) := by omega
      have i2 : (0 : Int) ≤ (k : Int) := by omega
      have i3 : IntKind.i64.wrap ((k : Int) + 1) = (k : Int) + 1 := IntWalk.i64_in _ (by omega)
      by_cases ha : xa = a
      · by_cases hi : xd = i
        · subst ha hi
          have e : r = (k : Int) := by
            rw [HE.out, findL_hit hkl HP.out (by rw [HX.out]; simp [Lc.is])]
          subst e
          go_wp2
          go_ret
          exact ⟨rfl, HB.out.alloc HB.out.size _⟩
        · subst ha
          go_wp2
          refine ⟨⟨k + 1, by omega, by push_cast; rfl, fun j hj => ?_, HB.out.alloc HB.out.size _⟩, by simp only [intOf]; omega⟩
          rcases Nat.lt_or_eq_of_le (Nat.lt_succ_iff.1 hj) with h1 | rfl
          · exact HP.out j h1
          · rw [HX.out]; simp [Lc.is, hi]
      · go_wp2
        refine ⟨⟨k + 1, by omega, by push_cast; rfl, fun j hj => ?_, HB.out.alloc HB.out.size _⟩, by simp only [intOf]; omega⟩
        rcases Nat.lt_or_eq_of_le (Nat.lt_succ_iff.1 hj) with h1 | rfl
        · exact HP.out j h1
        · rw [HX.out]; simp [Lc.is, ha]
    · have i3 : ¬ ((k : Int) < (n : Int)) := by omega
      have hkn : k = n := by omega
      have e : r = -1 := by
        rw [HE.out]
        exact findL_none fun j hj => HP.out j (by have := HL.out; omega)
      subst e
      go_wp2
      go_ret
      exact ⟨rfl, HB.out⟩

def selAt (a i : Int) (x : Lc) : Int := if x.acct = a ∧ x.instr = i ∧ x.qty < 0 then -x.qty else 0
/-- What is sold, of the first k. -/
def sellS (l : List Lc) (a i : Int) : Nat → Int
  | 0 => 0
  | k + 1 => sellS l a i k + selAt a i (l.getD k default)
theorem sellS_bounds {l : List Lc} (a i : Int) (h : ∀ j, j < l.length → fitsQ (l.getD j default).qty = true) : ∀ k, k ≤ l.length → 0 ≤ sellS l a i k ∧ sellS l a i k ≤ 1000000000 * (k : Int) := by
  intro k
  induction k with
  | zero => exact fun _ => ⟨Int.le_refl _, by simp [sellS]⟩
  | succ k ih =>
    intro hk
    have h1 := ih (by omega)
    have h2 := of_decide_eq_true (h k (by omega))
    unfold sellS selAt
    push_cast
    split <;> omega

set_option maxHeartbeats 2000000 in
theorem selling_any (A : Option Addr) (n c : Nat) (l : List Lc) (a i : Int) (w : World) (hfit : ∀ j, j < l.length → fitsQ (l.getD j default).qty = true) (hn : n ≤ 1000000) (hr : Rd w w.heap.size 5 A n (lcs l)) :
    Calls Try.prog 28 #[.slice A n c, .int .i64 a, .int .i64 i] w fun e w' => e = .returned (.int .i64 (sellS l a i l.length)) ∧ Below w.heap.size w w' := by
  have hl : l.length = n := by have := hr.1; rw [lcs_len] at this; omega
  have HBD := Lib.hid (sellS_bounds a i hfit)
  rw [hl]
  have HL := Lib.hid hl
  have HR := Lib.hid hr
  have HF := Lib.hid hfit
  clear hl hr hfit
  go_enter Try.func28, Try.ntmps28
  go_wp2
  go_loopw [7, 12] (fun s v wr => ∃ k : Nat, k ≤ n ∧ v = .int .i64 k ∧ s = .int .i64 (sellS l a i k) ∧ Below w.heap.size w wr) (fun _ v _ => n - (intOf v).toNat)
  case atStart => exact ⟨0, Nat.zero_le _, rfl, rfl, Below.refl _ _⟩
  case round =>
    obtain ⟨k, hk, rfl, rfl, hb⟩ := hrel
    have HB := Lib.hid hb
    clear hb
    rename World => V
    have hbd := HBD.out k (by have := HL.out; omega)
    obtain ⟨s, hs⟩ : ∃ s, s = sellS l a i k := ⟨_, rfl⟩
    rw [← hs] at hbd ⊢
    by_cases hlt : k < n
    · have hkl : k < l.length := by have := HL.out; omega
      have hq := of_decide_eq_true (HF.out k hkl)
      have hnext : sellS l a i (k + 1) = s + selAt a i (l.getD k default) := by rw [hs]; rfl
      obtain ⟨a0, hA, hb0, c0, c1, c2, c3, c4⟩ := rd_loc (HR.out.below HB.out) hkl
      subst hA
      obtain ⟨⟨xa, xd, xi, xq, xp⟩, hx⟩ : ∃ x, x = l[k] := ⟨_, rfl⟩
      rw [← hx] at c0 c1 c2 c3 c4
      have hX : l.getD k default = ⟨xa, xd, xi, xq, xp⟩ := by rw [hx]; exact getD_lt hkl
      rw [hX] at hnext hq
      dsimp only at c0 c1 c2 c3 c4 hq
      have HNX := Lib.hid hnext
      clear hx hb0 hX hs hnext
      have i1 : (k : Int) < (n : Int) := by omega
      have i2 : (0 : Int) ≤ (k : Int) := by omega
      have i3 : IntKind.i64.wrap ((k : Int) + 1) = (k : Int) + 1 := IntWalk.i64_in _ (by omega)
      by_cases ha : xa = a
      · by_cases hi : xi = i
        · by_cases hz : xq < 0
          · have e : sellS l a i (k + 1) = s - xq := by rw [HNX.out]; unfold selAt; rw [if_pos ⟨ha, hi, hz⟩]; show s + -xq = s - xq; omega
            have HE := Lib.hid e
            have i4 : IntKind.i64.wrap (s - xq) = s - xq := IntWalk.i64_in _ (by omega)
            subst ha hi
            clear e hq hbd
            go_wp2
            exact ⟨⟨k + 1, by omega, by push_cast; rfl, by rw [HE.out], HB.out.alloc HB.out.size _⟩, by simp only [intOf]; omega⟩
          · have e : sellS l a i (k + 1) = s := by rw [HNX.out]; unfold selAt; rw [if_neg (fun h => hz h.2.2)]; exact Int.add_zero s
            have HE := Lib.hid e
            subst ha hi
            clear e hq hbd
            go_wp2
            exact ⟨⟨k + 1, by omega, by push_cast; rfl, by rw [HE.out], HB.out.alloc HB.out.size _⟩, by simp only [intOf]; omega⟩
        · have e : sellS l a i (k + 1) = s := by rw [HNX.out]; unfold selAt; rw [if_neg (fun h => hi h.2.1)]; exact Int.add_zero s
          have HE := Lib.hid e
          subst ha
          clear e hq hbd
          go_wp2
          exact ⟨⟨k + 1, by omega, by push_cast; rfl, by rw [HE.out], HB.out.alloc HB.out.size _⟩, by simp only [intOf]; omega⟩
      · have e : sellS l a i (k + 1) = s := by rw [HNX.out]; unfold selAt; rw [if_neg (fun h => ha h.1)]; exact Int.add_zero s
        have HE := Lib.hid e
        clear e hq hbd
        go_wp2
        exact ⟨⟨k + 1, by omega, by push_cast; rfl, by rw [HE.out], HB.out.alloc HB.out.size _⟩, by simp only [intOf]; omega⟩
    · have i3 : ¬ ((k : Int) < (n : Int)) := by omega
      have hkn : k = n := by omega
      subst hkn
      have HS := Lib.hid hs
      clear hs hbd
      go_wp2
      go_ret
      exact ⟨congrArg (fun z => Ending.returned (Value.int .i64 z)) HS.out, HB.out⟩

set_option maxHeartbeats 2000000 in
theorem rselling_any (A : Option Addr) (n c : Nat) (l : List Lc) (a i : Int) (w : World) (hfit : ∀ j, j < l.length → fitsQ (l.getD j default).qty = true) (hn : n ≤ 1000000) (hr : Rd w w.heap.size 5 A n (lcs l)) :
    Calls Try.prog 29 #[.slice A n c, .int .i64 a, .int .i64 i] w fun e w' => e = .returned (.int .i64 (sellS l a i l.length)) ∧ Below w.heap.size w w' := by
  have hl : l.length = n := by have := hr.1; rw [lcs_len] at this; omega
  have HBD := Lib.hid (sellS_bounds a i hfit)
  rw [hl]
  have HL := Lib.hid hl
  have HR := Lib.hid hr
  have HF := Lib.hid hfit
  clear hl hr hfit
  go_enter Try.func29, Try.ntmps29
  go_wp2
  go_loopw [7, 12] (fun s v wr => ∃ k : Nat, k ≤ n ∧ v = .int .i64 k ∧ s = .int .i64 (sellS l a i k) ∧ Below w.heap.size w wr) (fun _ v _ => n - (intOf v).toNat)
  case atStart => exact ⟨0, Nat.zero_le _, rfl, rfl, Below.refl _ _⟩
  case round =>
    obtain ⟨k, hk, rfl, rfl, hb⟩ := hrel
    have HB := Lib.hid hb
    clear hb
    rename World => V
    have hbd := HBD.out k (by have := HL.out; omega)
    obtain ⟨s, hs⟩ : ∃ s, s = sellS l a i k := ⟨_, rfl⟩
    rw [← hs] at hbd ⊢
    by_cases hlt : k < n
    · have hkl : k < l.length := by have := HL.out; omega
      have hq := of_decide_eq_true (HF.out k hkl)
      have hnext : sellS l a i (k + 1) = s + selAt a i (l.getD k default) := by rw [hs]; rfl
      obtain ⟨a0, hA, hb0, c0, c1, c2, c3, c4⟩ := rd_loc (HR.out.below HB.out) hkl
      subst hA
      obtain ⟨⟨xa, xd, xi, xq, xp⟩, hx⟩ : ∃ x, x = l[k] := ⟨_, rfl⟩
      rw [← hx] at c0 c1 c2 c3 c4
      have hX : l.getD k default = ⟨xa, xd, xi, xq, xp⟩ := by rw [hx]; exact getD_lt hkl
      rw [hX] at hnext hq
      dsimp only at c0 c1 c2 c3 c4 hq
      have HNX := Lib.hid hnext
      clear hx hb0 hX hs hnext
      have i1 : (k : Int) < (n : Int) := by omega
      have i2 : (0 : Int) ≤ (k : Int) := by omega
      have i3 : IntKind.i64.wrap ((k : Int) + 1) = (k : Int) + 1 := IntWalk.i64_in _ (by omega)
      by_cases ha : xa = a
      · by_cases hi : xi = i
        · by_cases hz : xq < 0
          · have e : sellS l a i (k + 1) = s + -xq := by rw [HNX.out]; unfold selAt; rw [if_pos ⟨ha, hi, hz⟩]
            have HE := Lib.hid e
            have hab : absI xq = -xq := if_pos hz
            have i4 : IntKind.i64.wrap (s + -xq) = s + -xq := IntWalk.i64_in _ (by omega)
            obtain ⟨V3, hV3⟩ : ∃ V3, V3 = V.alloc (.cells #[.int .i64 xa, .int .i64 xd, .int .i64 xi, .int .i64 xq, .int .i64 xp] 38) := ⟨_, rfl⟩
            have HB3 : Hid (Below w.heap.size w V3) := by rw [hV3]; exact HB.out.alloc HB.out.size _
            have habs := abs_any xq V3 (by omega) (by omega)
            rw [hab] at habs
            have HABS := Lib.hid habs
            subst ha hi
            clear e hq hbd habs hab
            go_wp2_with fail
            rw [← hV3]
            refine HABS.out.mono ?_
            rintro e V4 ⟨rfl, hV4⟩
            rw [hV4]
            clear hV4 hV3
            go_wp2
            exact ⟨⟨k + 1, by omega, by push_cast; rfl, by rw [HE.out], HB3.out⟩, by simp only [intOf]; omega⟩
          · have e : sellS l a i (k + 1) = s := by rw [HNX.out]; unfold selAt; rw [if_neg (fun h => hz h.2.2)]; exact Int.add_zero s
            have HE := Lib.hid e
            subst ha hi
            clear e hq hbd
            go_wp2
            exact ⟨⟨k + 1, by omega, by push_cast; rfl, by rw [HE.out], HB.out.alloc HB.out.size _⟩, by simp only [intOf]; omega⟩
        · have e : sellS l a i (k + 1) = s := by rw [HNX.out]; unfold selAt; rw [if_neg (fun h => hi h.2.1)]; exact Int.add_zero s
          have HE := Lib.hid e
          subst ha
          clear e hq hbd
          go_wp2
          exact ⟨⟨k + 1, by omega, by push_cast; rfl, by rw [HE.out], HB.out.alloc HB.out.size _⟩, by simp only [intOf]; omega⟩
      · have e : sellS l a i (k + 1) = s := by rw [HNX.out]; unfold selAt; rw [if_neg (fun h => ha h.1)]; exact Int.add_zero s
        have HE := Lib.hid e
        clear e hq hbd
        go_wp2
        exact ⟨⟨k + 1, by omega, by push_cast; rfl, by rw [HE.out], HB.out.alloc HB.out.size _⟩, by simp only [intOf]; omega⟩
    · have i3 : ¬ ((k : Int) < (n : Int)) := by omega
      have hkn : k = n := by omega
      subst hkn
      have HS := Lib.hid hs
      clear hs hbd
      go_wp2
      go_ret
      exact ⟨congrArg (fun z => Ending.returned (Value.int .i64 z)) HS.out, HB.out⟩

end Go.Proofs.Ytiapbgbbeakoiaa.O
