/- Walk: the document's rise. By gen_g.py. -/
import Derived.Test.YtiapbgbbeakoiaaOG2
namespace Go.Proofs.Ytiapbgbbeakoiaa.O
open Go.RowKit

set_option maxHeartbeats 4000000 in
theorem rrise_any (A : Option Addr) (m c : Nat) (l : List Lc) (w : World) (hm : m ≤ maxLen) (hr : Rd w w.heap.size 5 A m (lcs l)) :
    Calls Try.prog 16 #[.slice A m c] w fun e w' => e = .returned (.bool (tidyB l)) ∧ Below w.heap.size w w' := by
  have hl : l.length = m := by have := hr.1; rw [lcs_len] at this; omega
  obtain ⟨r, hres⟩ : ∃ r, r = tidyB l := ⟨_, rfl⟩
  rw [← hres]
  have HR := Lib.hid hres
  have HLM := Lib.hid hl
  have HRL := Lib.hid hr
  clear hl hr hres
  unfold maxLen at hm
  go_enter Try.func16, Try.ntmps16
  go_wp2
  go_loopw [7] (fun v wr => ∃ k : Nat, k ≤ m ∧ v = .int .i64 k ∧ upto (tidyAt l) k = true ∧ Below w.heap.size w wr) (fun v _ => m - (intOf v).toNat)
  case atStart => exact ⟨0, Nat.zero_le _, rfl, rfl, Below.refl _ _⟩
  case round =>
    obtain ⟨j, hj, rfl, hpre, hbv⟩ := hrel
    rename World => V2
    have HP2 := Lib.hid hpre
    have HBV2 := Lib.hid hbv
    clear hpre hbv
    by_cases hlt2 : j < m
    · have hjl : j < l.length := by have := HLM.out; omega
      obtain ⟨a0, hA, _, c0, c1, c2, c3, c4⟩ := rd_loc (HRL.out.below HBV2.out) hjl
      obtain ⟨⟨xac, xid, xin, xqt, xpr⟩, hx⟩ : ∃ x, x = l[j] := ⟨_, rfl⟩
      rw [← hx] at c0 c1 c2 c3 c4
      have HX : Hid (l.getD j default = ⟨xac, xid, xin, xqt, xpr⟩) := by rw [hx]; exact getD_lt hjl
      dsimp only at c0 c1 c2 c3 c4
      subst hA
      clear hx
      have i1 : (j : Int) < (m : Int) := by omega
      have i2 : (0 : Int) ≤ (j : Int) := by omega
      have i4 : IntKind.i64.wrap ((j : Int) + 1) = (j : Int) + 1 := IntWalk.i64_in _ (by omega)
      obtain ⟨V3, hV3⟩ : ∃ V3, V3 = V2.alloc (.cells #[.int .i64 xac, .int .i64 xid, .int .i64 xin, .int .i64 xqt, .int .i64 xpr] 38) := ⟨_, rfl⟩
      obtain ⟨bx, hbx⟩ : ∃ bx, bx = V2.heap.size := ⟨_, rfl⟩
      have HBX : Hid (Bk V3 bx 38 #[.int .i64 xac, .int .i64 xid, .int .i64 xin, .int .i64 xqt, .int .i64 xpr]) := by rw [hV3, hbx]; exact Bk.new _ _ _
      have HB3 : Hid (Below w.heap.size w V3) := by rw [hV3]; exact HBV2.out.alloc HBV2.out.size _
      go_upto_region 4 with (fail)
      rw [← hV3, ← hbx]
      clear hV3 hbx c0 c1 c2 c3 c4
      obtain ⟨x0, x1, x2, x3, x4, z0, z1, z2, z3, z4, hxg⟩ := HBX.out.five
      have hno : tidyAt l j = false → r = false := fun h => by
        rw [HR.out]
        unfold tidyB
        rw [upto_false hjl h]
      have HNO := Lib.hid hno
      clear hno
      have hyes : tidyAt l j = true → upto (tidyAt l) (j + 1) = true := fun h => by rw [upto_succ, HP2.out, h]; rfl
      have HYES := Lib.hid hyes
      clear hyes
      have hat : tidyAt l j = (fitsQ xqt && ordAt l j) := by unfold tidyAt; rw [HX.out]
      have HAT := Lib.hid hat
      clear hat
      go_wp2_with fail
      refine (rfits_any xqt V3).mono ?_
      rintro e V4 ⟨rfl, rfl⟩
      by_cases hff : fitsQ xqt = true
      case neg =>
        have hff' : fitsQ xqt = false := by simpa using hff
        have e : r = false := HNO.out (by rw [HAT.out, hff']; rfl)
        subst e
        rw [hff']
        clear hff hff'
        go_wp2
        go_ret
        exact ⟨rfl, ⟨HB3.out.os, HB3.out.tape, HB3.out.output, HB3.out.size, HB3.out.block⟩⟩
      rw [hff]
      have HAT1 : Hid (tidyAt l j = ordAt l j) := by rw [Hid, HAT.out, hff]; rfl
      clear hff HAT
      have fin : ordAt l j = true → ∀ q, (∃ k : Nat, k ≤ m ∧ Value.int IntKind.i64 ((j : Int) + 1) = .int .i64 k ∧ upto (tidyAt l) k = true ∧ Below w.heap.size w (V4.drewN q)) := fun h q =>
        ⟨j + 1, by omega, by push_cast; rfl, HYES.out (by rw [HAT1.out, h]), ⟨HB3.out.os, HB3.out.tape, HB3.out.output, HB3.out.size, HB3.out.block⟩⟩
      have FIN := Lib.hid fin
      have bad : ordAt l j = false → r = false := fun h => HNO.out (by rw [HAT1.out, h])
      have BAD := Lib.hid bad
      clear fin bad
      rcases j with _ | j
      · have i5 : ¬ ((0 : Int) > 0) := by omega
        simp only [Int.natCast_zero] at *
        go_upto_region 6 with (fail)
        go_quiet (fail)
        go_wp2
        exact ⟨FIN.out (by simp [ordAt]) _, by simp only [intOf]; omega⟩
      have hj0 : j < l.length := by omega
      obtain ⟨a1, hA1, _, d0, d1, d2, d3, d4⟩ := rd_loc (HRL.out.below HB3.out) hj0
      have e1 : a1 = a0 := (Option.some.inj hA1).symm
      subst e1
      obtain ⟨⟨yac, yid, yin, yqt, ypr⟩, hy⟩ : ∃ y, y = l[j] := ⟨_, rfl⟩
      rw [← hy] at d0 d1 d2 d3 d4
      have HY : Hid (l.getD j default = ⟨yac, yid, yin, yqt, ypr⟩) := by rw [hy]; exact getD_lt hj0
      dsimp only at d0 d1 d2 d3 d4
      clear hy hA1
      have hord : Hid (ordAt l (j + 1) = decide (yac < xac ∨ (yac = xac ∧ yid < xid))) := by
        unfold ordAt
        rw [Nat.add_sub_cancel, HX.out, HY.out]
        exact decide_eq_decide.2 (by rw [cmpL_lt]; dsimp only; omega)
      have j1 : (0 : Int) < (j : Int) + 1 := by omega
      have j2 : IntKind.i64.wrap ((j : Int) + 1 - 1) = (j : Int) := by rw [Int.add_sub_cancel]; exact IntWalk.i64_in _ (by omega)
      have j3 : (0 : Int) ≤ (j : Int) := by omega
      have j4 : (j : Int) < (m : Int) := by omega
      have j5 : (j : Int) + 1 - 1 = (j : Int) := by omega
      have j6 : IntKind.i64.wrap (j : Int) = (j : Int) := IntWalk.i64_in _ (by omega)
      go_upto_region 6 with (fail)
      by_cases h1 : xac < yac
      · have e : r = false := BAD.out (by rw [hord.out]; exact decide_eq_false (by omega))
        subst e
        go_quiet (fail)
        go_wp2
        go_ret
        exact ⟨rfl, ⟨HB3.out.os, HB3.out.tape, HB3.out.output, HB3.out.size, HB3.out.block⟩⟩
      by_cases h2 : yac = xac
      · subst h2
        by_cases h3 : xid ≤ yid
        · have e : r = false := BAD.out (by rw [hord.out]; exact decide_eq_false (by omega))
          subst e
          go_quiet (fail)
          go_wp2
          go_ret
          exact ⟨rfl, ⟨HB3.out.os, HB3.out.tape, HB3.out.output, HB3.out.size, HB3.out.block⟩⟩
        · have ho : ordAt l (j + 1) = true := by rw [hord.out]; exact decide_eq_true (by omega)
          have h4 : ¬ (yid ≥ xid) := by omega
          go_quiet (fail)
          go_wp2
          exact ⟨FIN.out ho _, by simp only [intOf]; omega⟩
      · have ho : ordAt l (j + 1) = true := by rw [hord.out]; exact decide_eq_true (by omega)
        go_quiet (fail)
        go_wp2
        exact ⟨FIN.out ho _, by simp only [intOf]; omega⟩
    · have i5 : ¬ ((j : Int) < (m : Int)) := by omega
      have hjm : j = m := by omega
      have e : r = true := by
        rw [HR.out]
        unfold tidyB
        rw [HLM.out, ← hjm, HP2.out]
      subst e
      go_wp2
      go_ret
      exact ⟨rfl, HBV2.out⟩

end Go.Proofs.Ytiapbgbbeakoiaa.O
