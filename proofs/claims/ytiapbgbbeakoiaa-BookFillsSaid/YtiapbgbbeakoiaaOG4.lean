/- Walks: what can be, the program's and the document's. By gen_g.py. -/
import Derived.Test.YtiapbgbbeakoiaaOG3
namespace Go.Proofs.Ytiapbgbbeakoiaa.O
open Go.RowKit

/-- One that can be, its quantity's bounds left out. -/
def inB (ac nc : Int) (x : Lc) : Bool := decide (1 < x.acct ∧ x.acct < ac ∧ 1 ≤ x.id ∧ x.id ≤ 1099511627776 ∧ 0 ≤ x.instr ∧ x.instr < nc ∧ x.qty ≠ 0 ∧ 1 ≤ x.price ∧ x.price ≤ 100000000000000)
theorem upto_all (f : Lc → Bool) (l : List Lc) : upto (fun j => f (l.getD j default)) l.length = l.all f := by
  rw [Bool.eq_iff_iff, upto_iff, List.all_eq_true]
  constructor
  · intro h x hx
    obtain ⟨j, hj, rfl⟩ := List.mem_iff_getElem.1 hx
    have := h j hj
    rwa [getD_lt hj] at this
  · intro h j hj
    rw [getD_lt hj]
    exact h _ (List.getElem_mem hj)
theorem good_ref (ac nc : Int) (l : List Lc) : goodB ac nc l = (decide (l.length ≤ 32) && (tidyB l && upto (fun j => inB ac nc (l.getD j default)) l.length)) := by
  unfold goodB
  congr 1
  rw [upto_all, Bool.eq_iff_iff, Bool.and_eq_true, Bool.and_eq_true, tidy_iff, List.all_eq_true, List.all_eq_true]
  constructor
  · rintro ⟨h1, h2⟩
    refine ⟨⟨h1, fun j hj => ?_⟩, fun x hx => ?_⟩
    · have := h2 _ (List.getElem_mem hj)
      rw [getD_lt hj]
      unfold okB at this
      have := of_decide_eq_true this
      exact decide_eq_true (by omega)
    · have := h2 x hx
      unfold okB at this
      have := of_decide_eq_true this
      exact decide_eq_true (by omega)
  · rintro ⟨⟨h1, h3⟩, h2⟩
    refine ⟨h1, fun x hx => ?_⟩
    obtain ⟨j, hj, rfl⟩ := List.mem_iff_getElem.1 hx
    have a := h2 _ (List.getElem_mem hj)
    have b := h3 j hj
    rw [getD_lt hj] at b
    unfold inB at a
    unfold fitsQ at b
    have a := of_decide_eq_true a
    have b := of_decide_eq_true b
    exact decide_eq_true (by omega)

set_option maxHeartbeats 2000000 in
theorem good_any (A : Option Addr) (n c : Nat) (l : List Lc) (ac nc : Int) (w : World) (hn : n ≤ maxLen) (hr : Rd w w.heap.size 5 A n (lcs l)) :
    Calls Try.prog 23 #[.slice A n c, .int .i64 ac, .int .i64 nc] w fun e w' => e = .returned (.bool (goodB ac nc l)) ∧ Below w.heap.size w w' := by
  have hl : l.length = n := by have := hr.1; rw [lcs_len] at this; omega
  obtain ⟨r, hres⟩ : ∃ r, r = goodB ac nc l := ⟨_, rfl⟩
  rw [← hres]
  unfold goodB at hres
  rw [hl] at hres
  have HR := Lib.hid hres
  obtain ⟨W, hW⟩ : ∃ W, W = (w.alloc (.cells #[.int .i64 ac] 3)).alloc (.cells #[.int .i64 nc] 3) := ⟨_, rfl⟩
  have hB0 : Bk W w.heap.size 3 #[.int .i64 ac] := by rw [hW]; exact (Bk.new w _ _).alloc _
  have hB1 : Bk W (w.heap.size + 1) 3 #[.int .i64 nc] := by
    rw [hW]; have := Bk.new (w.alloc (.cells #[.int .i64 ac] 3)) 3 #[.int .i64 nc]; simpa using this
  have HBL : Hid (Below w.heap.size w W) := by rw [hW]; exact ((Below.refl _ w).alloc (Nat.le_refl _) _).alloc (by simp) _
  have HRD : Hid (∀ V', Below W.heap.size W V' → Rd V' V'.heap.size 5 A n (lcs l)) := fun V' h => (((hr.below HBL.out).mono HBL.out.size).below h).mono h.size
  have H0 := Lib.hid hB0
  have H1 := Lib.hid hB1
  have HN := Lib.hid hn
  clear hB0 hB1 hr hres hl hn
  go_enter Try.func23, Try.ntmps23
  go_upto_region 1 with (fail)
  rw [← hW]
  clear hW
  by_cases h1 : 32 < n
  · have e : r = false := by rw [HR.out, decide_eq_false (by omega)]; rfl
    subst e
    have i1 : ¬ ((n : Int) ≤ 32) := by omega
    go_wp2
    go_ret
    exact ⟨rfl, HBL.out⟩
  have hr2 : r = (riseB l && l.all (okB ac nc)) := by rw [HR.out, decide_eq_true (by omega)]; rfl
  have HR2 := Lib.hid hr2
  clear hr2 HR
  have i1 : (n : Int) ≤ 32 := by omega
  have hrise := rise_any A n c l W HN.out (HRD.out W (Below.refl _ _))
  obtain ⟨b, hb⟩ : ∃ b, b = riseB l := ⟨_, rfl⟩
  rw [← hb] at hrise
  have HRISE := Lib.hid hrise
  have HBB := Lib.hid hb
  clear hrise hb
  go_wp2_with fail
  refine HRISE.out.mono ?_
  rintro e w1 ⟨rfl, hb1⟩
  have HB1 := Lib.hid hb1
  clear hb1
  cases b with
  | false =>
    have e : r = false := by rw [HR2.out, ← HBB.out]; rfl
    subst e
    go_wp2
    go_ret
    exact ⟨rfl, HBL.out.trans (HB1.out.mono HBL.out.size)⟩
  | true =>
  have hr3 : r = l.all (okB ac nc) := by rw [HR2.out, ← HBB.out]; rfl
  have hcon := contains_any A n c l ac nc w.heap.size (w.heap.size + 1) w1 HN.out (HRD.out w1 HB1.out) (H0.out.below HB1.out H0.out.lt) (H1.out.below HB1.out H1.out.lt)
  rw [← hr3] at hcon
  have HCON := Lib.hid hcon
  clear hcon hr3
  go_wp2_with fail
  refine HCON.out.mono ?_
  rintro e w2 ⟨rfl, hb2⟩
  go_wp2
  go_ret
  exact ⟨by simp, HBL.out.trans ((HB1.out.trans (hb2.mono HB1.out.size)).mono HBL.out.size)⟩

set_option maxHeartbeats 4000000 in
theorem rgood_any (A : Option Addr) (m c : Nat) (l : List Lc) (ac nc : Int) (w : World) (hm : m ≤ maxLen) (hr : Rd w w.heap.size 5 A m (lcs l)) :
    Calls Try.prog 24 #[.slice A m c, .int .i64 ac, .int .i64 nc] w fun e w' => e = .returned (.bool (goodB ac nc l)) ∧ Below w.heap.size w w' := by
  have hlm : l.length = m := by have := hr.1; rw [lcs_len] at this; omega
  obtain ⟨r, hres⟩ : ∃ r, r = goodB ac nc l := ⟨_, rfl⟩
  rw [← hres]
  rw [good_ref] at hres
  have HR := Lib.hid hres
  have HLM := Lib.hid hlm
  have HRL := Lib.hid hr
  have HTI := Lib.hid (rrise_any A m c l w hm hr)
  clear hres hlm hr
  unfold maxLen at hm
  go_enter Try.func24, Try.ntmps24
  by_cases h2 : 32 < m
  · have e : r = false := by rw [HR.out, HLM.out, decide_eq_false (fun h => by omega)]; rfl
    subst e
    have i1 : (32 : Int) < (m : Int) := by omega
    go_wp2
    go_ret
    exact ⟨rfl, Below.refl _ _⟩
  have i1 : ¬ ((32 : Int) < (m : Int)) := by omega
  have hr2 : Hid (r = (tidyB l && upto (fun j => inB ac nc (l.getD j default)) l.length)) := Lib.hid (by rw [HR.out, HLM.out, decide_eq_true (by omega)]; rfl)
  clear HR
  obtain ⟨tb, htb⟩ : ∃ tb, tb = tidyB l := ⟨_, rfl⟩
  rw [← htb] at HTI
  have HTB := Lib.hid htb
  clear htb
  go_wp2_with fail
  refine HTI.out.mono ?_
  rintro e w1 ⟨rfl, hb1⟩
  have HB1 := Lib.hid hb1
  clear hb1
  cases tb with
  | false =>
    have e : r = false := by rw [hr2.out, ← HTB.out]; rfl
    subst e
    go_wp2
    go_ret
    exact ⟨rfl, HB1.out⟩
  | true =>
  have hr3 : Hid (r = upto (fun j => inB ac nc (l.getD j default)) l.length) := Lib.hid (by rw [hr2.out, ← HTB.out]; rfl)
  clear hr2 HTB
  have hnk : ∀ j, j < m → inB ac nc (l.getD j default) = false → r = false := fun j hj h => by rw [hr3.out]; exact upto_false (by have := HLM.out; omega) h
  have HNK := Lib.hid hnk
  clear hnk
  go_wp2
  go_loopw [19] (fun v wr => ∃ k : Nat, k ≤ m ∧ v = .int .i64 k ∧ upto (fun j => inB ac nc (l.getD j default)) k = true ∧ Below w.heap.size w wr) (fun v _ => m - (intOf v).toNat)
  case atStart => exact ⟨0, Nat.zero_le _, rfl, rfl, HB1.out⟩
  case round =>
    obtain ⟨j, hj, rfl, hpre, hbv⟩ := hrel
    rename World => V2
    have HP2 := Lib.hid hpre
    have HB2 := Lib.hid hbv
    clear hpre hbv
    by_cases hlt : j < m
    · have hjl : j < l.length := by have := HLM.out; omega
      obtain ⟨a0, hA, _, c0, c1, c2, c3, c4⟩ := rd_loc (HRL.out.below HB2.out) hjl
      obtain ⟨⟨yac, yid, yin, yqt, ypr⟩, hx⟩ : ∃ x, x = l[j] := ⟨_, rfl⟩
      rw [← hx] at c0 c1 c2 c3 c4
      have HX : Hid (l.getD j default = ⟨yac, yid, yin, yqt, ypr⟩) := by rw [hx]; exact getD_lt hjl
      dsimp only at c0 c1 c2 c3 c4
      subst hA
      clear hx
      have i1 : (j : Int) < (m : Int) := by omega
      have i2 : (0 : Int) ≤ (j : Int) := by omega
      have i4 : IntKind.i64.wrap ((j : Int) + 1) = (j : Int) + 1 := IntWalk.i64_in _ (by omega)
      obtain ⟨V3, hV3⟩ : ∃ V3, V3 = V2.alloc (.cells #[.int .i64 yac, .int .i64 yid, .int .i64 yin, .int .i64 yqt, .int .i64 ypr] 38) := ⟨_, rfl⟩
      obtain ⟨bx, hbx⟩ : ∃ bx, bx = V2.heap.size := ⟨_, rfl⟩
      have HBX : Hid (Bk V3 bx 38 #[.int .i64 yac, .int .i64 yid, .int .i64 yin, .int .i64 yqt, .int .i64 ypr]) := by rw [hV3, hbx]; exact Bk.new _ _ _
      have HB3 : Hid (Below w.heap.size w V3) := by rw [hV3]; exact HB2.out.alloc HB2.out.size _
      go_upto_region 6 with (fail)
      rw [← hV3, ← hbx]
      clear hV3 hbx c0 c1 c2 c3 c4
      obtain ⟨x0, x1, x2, x3, x4, z0, z1, z2, z3, z4, hxg⟩ := HBX.out.five
      have hyes : inB ac nc (l.getD j default) = true → upto (fun j => inB ac nc (l.getD j default)) (j + 1) = true := fun h => by rw [upto_succ, HP2.out, h]; rfl
      have HYES := Lib.hid hyes
      clear hyes
      by_cases k0 : yac < 2
      · have e : r = false := HNK.out j hlt (by unfold inB; rw [HX.out]; exact decide_eq_false (by dsimp only; omega))
        subst e
        go_wp2
        go_ret
        exact ⟨rfl, HB3.out⟩
      by_cases k1 : ac ≤ yac
      · have e : r = false := HNK.out j hlt (by unfold inB; rw [HX.out]; exact decide_eq_false (by dsimp only; omega))
        subst e
        go_wp2
        go_ret
        exact ⟨rfl, HB3.out⟩
      by_cases k2 : yid < 1
      · have e : r = false := HNK.out j hlt (by unfold inB; rw [HX.out]; exact decide_eq_false (by dsimp only; omega))
        subst e
        go_wp2
        go_ret
        exact ⟨rfl, HB3.out⟩
      by_cases k3 : 1099511627776 < yid
      · have e : r = false := HNK.out j hlt (by unfold inB; rw [HX.out]; exact decide_eq_false (by dsimp only; omega))
        subst e
        go_wp2
        go_ret
        exact ⟨rfl, HB3.out⟩
      by_cases k4 : yin < 0
      · have e : r = false := HNK.out j hlt (by unfold inB; rw [HX.out]; exact decide_eq_false (by dsimp only; omega))
        subst e
        go_wp2
        go_ret
        exact ⟨rfl, HB3.out⟩
      by_cases k5 : nc ≤ yin
      · have e : r = false := HNK.out j hlt (by unfold inB; rw [HX.out]; exact decide_eq_false (by dsimp only; omega))
        subst e
        go_wp2
        go_ret
        exact ⟨rfl, HB3.out⟩
      by_cases k6 : yqt = 0
      · have e : r = false := HNK.out j hlt (by unfold inB; rw [HX.out]; exact decide_eq_false (by dsimp only; omega))
        subst e
        go_wp2
        go_ret
        exact ⟨rfl, HB3.out⟩
      by_cases k7 : ypr < 1
      · have e : r = false := HNK.out j hlt (by unfold inB; rw [HX.out]; exact decide_eq_false (by dsimp only; omega))
        subst e
        go_wp2
        go_ret
        exact ⟨rfl, HB3.out⟩
      by_cases k8 : 100000000000000 < ypr
      · have e : r = false := HNK.out j hlt (by unfold inB; rw [HX.out]; exact decide_eq_false (by dsimp only; omega))
        subst e
        go_wp2
        go_ret
        exact ⟨rfl, HB3.out⟩
      have hin : inB ac nc (l.getD j default) = true := by unfold inB; rw [HX.out]; exact decide_eq_true (by dsimp only; omega)
      have HU := Lib.hid (HYES.out hin)
      clear hin
      go_wp2
      exact ⟨⟨j + 1, by omega, by push_cast; rfl, HU.out, HB3.out⟩, by simp only [intOf]; omega⟩
    · have i5 : ¬ ((j : Int) < (m : Int)) := by omega
      have hjm : j = m := by omega
      have e : r = true := by rw [hr3.out, HLM.out, ← hjm, HP2.out]
      subst e
      go_wp2
      go_ret
      exact ⟨rfl, HB2.out⟩

end Go.Proofs.Ytiapbgbbeakoiaa.O
