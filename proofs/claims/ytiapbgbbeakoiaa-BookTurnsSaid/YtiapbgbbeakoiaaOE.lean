/- Walks: Find. By gen_c.py. -/
import Derived.Test.YtiapbgbbeakoiaaOK
namespace Go.Proofs.Ytiapbgbbeakoiaa.O
open Go.RowKit

/-- The first one's place, or -1. -/
def findL (l : List Lc) (a i : Int) : Int := if (l.findIdx fun x => x.is a i) < l.length then ((l.findIdx fun x => x.is a i : Nat) : Int) else -1
theorem findL_hit {l : List Lc} {a i : Int} {k : Nat} (hk : k < l.length) (hpre : ∀ j, j < k → (l.getD j default).is a i = false) (h : (l.getD k default).is a i = true) : findL l a i = (k : Int) := by
  have e : l.findIdx (fun x => x.is a i) = k := by
    rw [List.findIdx_eq hk]
    rw [getD_lt hk] at h
    refine ⟨h, fun j hj => ?_⟩
    have := hpre j hj
    rw [getD_lt (by omega)] at this
    simpa using this
  unfold findL
  rw [e, if_pos hk]
theorem findL_none {l : List Lc} {a i : Int} (hpre : ∀ j, j < l.length → (l.getD j default).is a i = false) : findL l a i = -1 := by
  have e : l.findIdx (fun x => x.is a i) = l.length := by
    rw [List.findIdx_eq_length]
    intro x hx
    obtain ⟨j, hj, rfl⟩ := List.mem_iff_getElem.1 hx
    have := hpre j hj
    rwa [getD_lt hj] at this
  unfold findL
  rw [e, if_neg (Nat.lt_irrefl _)]
/-- In their order it stands at its place. -/
theorem findL_sorted {l : List Lc} (hs : Sorted l) (a i : Int) : findL l a i = if thereB l ⟨a, i, 0, 0, 0⟩ = true then ((place l ⟨a, i, 0, 0, 0⟩ : Nat) : Int) else -1 := by
  have hk := fun j (hj : j < l.length) => hs.key ⟨a, i, 0, 0, 0⟩ hj
  split
  · rename_i ht
    have hp := there_lt ht
    refine findL_hit hp (fun j hj => ?_) ((hk _ hp).2 ⟨rfl, ht⟩)
    cases hc : (l.getD j default).is a i with
    | false => rfl
    | true => have := ((hk j (by omega)).1 hc).1; omega
  · rename_i ht
    refine findL_none fun j hj => ?_
    cases hc : (l.getD j default).is a i with
    | false => rfl
    | true => exact absurd ((hk j hj).1 hc).2 ht

theorem isit_any (x : Lc) (a i : Int) (b1 b2 : Nat) (w : World) (h1 : w.cell? ⟨b1, 0, none⟩ = some (.int .i64 a)) (h2 : w.cell? ⟨b2, 0, none⟩ = some (.int .i64 i)) :
    Calls Try.prog 53 #[x.val, .pointer (some ⟨b1, 0, none⟩), .pointer (some ⟨b2, 0, none⟩)] w fun e w' => e = .returned (.bool (x.is a i)) ∧ Below w.heap.size w w' := by
  obtain ⟨r, hr⟩ : ∃ r, r = x.is a i := ⟨_, rfl⟩
  rw [← hr]
  have HR := Lib.hid hr
  clear hr
  have g1 := World.block_lt_of_cell? _ _ h1
  have g2 := World.block_lt_of_cell? _ _ h2
  dsimp only at g1 g2
  unfold Lc.val
  by_cases ha : x.acct = a
  · by_cases hi : x.id = i
    · have e : r = true := by rw [HR.out]; simp [Lc.is, ha, hi]
      subst e
      go_enter Try.func53, Try.ntmps53
      go_wp2
      go_ret
      exact ⟨rfl, (Below.refl w.heap.size w).alloc (Nat.le_refl _) _⟩
    · have e : r = false := by rw [HR.out]; simp [Lc.is, hi]
      have hib : (x.id == i) = false := by simpa using hi
      subst e
      go_enter Try.func53, Try.ntmps53
      go_wp2
      go_ret
      exact ⟨rfl, (Below.refl w.heap.size w).alloc (Nat.le_refl _) _⟩
  · have e : r = false := by rw [HR.out]; simp [Lc.is, ha]
    subst e
    go_enter Try.func53, Try.ntmps53
    go_wp2
    go_ret
    exact ⟨rfl, (Below.refl w.heap.size w).alloc (Nat.le_refl _) _⟩

set_option maxHeartbeats 1000000 in
theorem index_any (A : Option Addr) (n c : Nat) (l : List Lc) (a i : Int) (b1 b2 : Nat) (w : World) (hn : n ≤ maxLen) (hr : Rd w w.heap.size 5 A n (lcs l)) (h1 : Bk w b1 3 #[.int .i64 a]) (h2 : Bk w b2 3 #[.int .i64 i]) :
    Calls Try.prog 52 #[.slice A n c, .func (.func 53) #[] #[.pointer (some ⟨b1, 0, none⟩), .pointer (some ⟨b2, 0, none⟩)]] w fun e w' => e = .returned (.int .i64 (findL l a i)) ∧ Below w.heap.size w w' := by
  have hl : l.length = n := by have := hr.1; rw [lcs_len] at this; omega
  have HL := Lib.hid hl
  have HR := Lib.hid hr
  have H1 := Lib.hid h1
  have H2 := Lib.hid h2
  clear hl hr h1 h2
  unfold maxLen at hn
  obtain ⟨r, hres⟩ : ∃ r, r = findL l a i := ⟨_, rfl⟩
  rw [← hres]
  have HE := Lib.hid hres
  clear hres
  go_enter Try.func52, Try.ntmps52
  go_wp2
  go_loopw [5, 8] (fun u v wr => ∃ k : Nat, k ≤ n ∧ v = .int .i64 k ∧ (∀ j, j < k → (l.getD j default).is a i = false) ∧ Below w.heap.size w wr) (fun _ v _ => n - (intOf v).toNat)
  case atStart => exact ⟨0, Nat.zero_le _, rfl, fun j hj => absurd hj (Nat.not_lt_zero _), Below.refl _ _⟩
  case round =>
    obtain ⟨k, hk, rfl, hpre, hb⟩ := hrel
    have HP := Lib.hid hpre
    have HB := Lib.hid hb
    clear hpre hb
    rename World => V
    by_cases hlt : k < n
    · have hkl : k < l.length := by have := HL.out; omega
      obtain ⟨a0, hA, hb0, c0, c1, c2, c3, c4⟩ := rd_loc (HR.out.below HB.out) hkl
      subst hA
      obtain ⟨⟨yac, yid, yin, yqt, ypr⟩, hx⟩ : ∃ x, x = l[k] := ⟨_, rfl⟩
      rw [← hx] at c0 c1 c2 c3 c4
      have HX : Hid (l.getD k default = ⟨yac, yid, yin, yqt, ypr⟩) := by rw [hx]; exact getD_lt hkl
      dsimp only at c0 c1 c2 c3 c4
      clear hx hb0
      have i1 : (k : Int) < (n : Int) := by omega
      have i2 : (0 : Int) ≤ (k : Int) := by omega
      have i3 : IntKind.i64.wrap ((k : Int) + 1) = (k : Int) + 1 := IntWalk.i64_in _ (by omega)
      have k1 := ((H1.out.below HB.out H1.out.lt).one).1
      have k2 := ((H2.out.below HB.out H2.out.lt).one).1
      have hc := isit_any ⟨yac, yid, yin, yqt, ypr⟩ a i b1 b2 V k1 k2
      rw [← HX.out] at hc
      obtain ⟨rb, hrb⟩ : ∃ rb, rb = (l.getD k default).is a i := ⟨_, rfl⟩
      rw [← hrb] at hc
      rw [HX.out] at hc
      unfold Lc.val at hc
      have HC := Lib.hid hc
      have HRB := Lib.hid hrb
      clear hc hrb k1 k2
      go_wp2_with fail
      refine HC.out.mono ?_
      rintro e w2 ⟨rfl, hb2⟩
      have HB2 : Hid (Below w.heap.size w w2) := HB.out.trans (hb2.mono HB.out.size)
      clear hb2 c0 c1 c2 c3 c4
      cases rb with
      | true =>
        have e : r = (k : Int) := by rw [HE.out, findL_hit hkl HP.out HRB.out.symm]
        subst e
        go_wp2
        go_ret
        exact ⟨rfl, HB2.out⟩
      | false =>
        go_wp2
        refine ⟨⟨k + 1, by omega, by push_cast; rfl, fun j hj => ?_, HB2.out⟩, by simp only [intOf]; omega⟩
        rcases Nat.lt_or_eq_of_le (Nat.lt_succ_iff.1 hj) with h1 | rfl
        · exact HP.out j h1
        · exact HRB.out.symm
    · have i3 : ¬ ((k : Int) < (n : Int)) := by omega
      have hkn : k = n := by omega
      have e : r = -1 := by
        rw [HE.out]
        exact findL_none fun j hj => HP.out j (by have := HL.out; omega)
      subst e
      go_wp2
      go_ret
      exact ⟨rfl, HB.out⟩

theorem find_any (A : Option Addr) (n c : Nat) (l : List Lc) (a i : Int) (w : World) (hn : n ≤ maxLen) (hr : Rd w w.heap.size 5 A n (lcs l)) :
    Calls Try.prog 26 #[.slice A n c, .int .i64 a, .int .i64 i] w fun e w' => e = .returned (.int .i64 (findL l a i)) ∧ Below w.heap.size w w' := by
  obtain ⟨W, hW⟩ : ∃ W, W = (w.alloc (.cells #[.int .i64 a] 3)).alloc (.cells #[.int .i64 i] 3) := ⟨_, rfl⟩
  have hB0 : Bk W w.heap.size 3 #[.int .i64 a] := by rw [hW]; exact (Bk.new w _ _).alloc _
  have hB1 : Bk W (w.heap.size + 1) 3 #[.int .i64 i] := by
    rw [hW]; have := Bk.new (w.alloc (.cells #[.int .i64 a] 3)) 3 #[.int .i64 i]; simpa using this
  have HBL : Hid (Below w.heap.size w W) := by rw [hW]; exact ((Below.refl _ w).alloc (Nat.le_refl _) _).alloc (by simp) _
  have HI := Lib.hid (index_any A n c l a i w.heap.size (w.heap.size + 1) W hn ((hr.below HBL.out).mono HBL.out.size) hB0 hB1)
  obtain ⟨r, hres⟩ : ∃ r, r = findL l a i := ⟨_, rfl⟩
  rw [← hres] at HI ⊢
  clear hB0 hB1 hr hres
  go_enter Try.func26, Try.ntmps26
  go_upto_region 1 with (fail)
  rw [← hW]
  clear hW
  go_wp2_with fail
  refine HI.out.mono ?_
  rintro e w2 ⟨rfl, hb2⟩
  go_wp2
  go_ret
  exact ⟨rfl, HBL.out.trans (hb2.mono HBL.out.size)⟩

end Go.Proofs.Ytiapbgbbeakoiaa.O
