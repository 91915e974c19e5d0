/- Walk: rise. By gen_g.py. -/
import Derived.Test.YtiapbgbbeakoiaaOG1
namespace Go.Proofs.Ytiapbgbbeakoiaa.O
open Go.RowKit

set_option maxHeartbeats 4000000 in
theorem rise_any (A : Option Addr) (n c : Nat) (l : List Lc) (w : World) (hn : n ≤ maxLen) (hr : Rd w w.heap.size 5 A n (lcs l)) :
    Calls Try.prog 50 #[.slice A n c, .func (.func 41) #[] #[]] w fun e w' => e = .returned (.bool (riseB l)) ∧ Below w.heap.size w w' := by
  have hl : l.length = n := by have := hr.1; rw [lcs_len] at this; omega
  obtain ⟨r, hres⟩ : ∃ r, r = riseB l := ⟨_, rfl⟩
  rw [← hres]
  have HR := Lib.hid hres
  have HL := Lib.hid hl
  have HRL := Lib.hid hr
  clear hl hr hres
  unfold maxLen at hn
  go_enter Try.func50, Try.ntmps50
  go_wp2
  go_loopw [5] (fun v wr => ∃ k : Nat, (k + 1 ≤ n ∨ k = 0) ∧ v = .int .i64 ((k : Int) + 1) ∧ upto (ordAt l) (k + 1) = true ∧ Below w.heap.size w wr) (fun v _ => n + 1 - (intOf v).toNat)
  case atStart => exact ⟨0, .inr rfl, rfl, by simp [upto_succ, upto_zero, ordAt], Below.refl _ _⟩
  case round =>
    obtain ⟨k, hk, rfl, hpre, hb⟩ := hrel
    have HP := Lib.hid hpre
    have HB := Lib.hid hb
    clear hpre hb
    rename World => V
    by_cases hlt : k + 1 < n
    · have hkl : k + 1 < l.length := by have := HL.out; omega
      have hk0 : k < l.length := by omega
      obtain ⟨a0, hA, _, d0, d1, d2, d3, d4⟩ := rd_loc (HRL.out.below HB.out) hk0
      obtain ⟨a1, hA1, _, e0, e1, e2, e3, e4⟩ := rd_loc (HRL.out.below HB.out) hkl
      have ea : a1 = a0 := Option.some.inj (hA1.symm.trans hA)
      subst ea
      subst hA
      obtain ⟨⟨yac, yid, yin, yqt, ypr⟩, hy⟩ : ∃ y, y = l[k] := ⟨_, rfl⟩
      rw [← hy] at d0 d1 d2 d3 d4
      have HY : Hid (l.getD k default = ⟨yac, yid, yin, yqt, ypr⟩) := by rw [hy]; exact getD_lt hk0
      obtain ⟨⟨xac, xid, xin, xqt, xpr⟩, hx⟩ : ∃ x, x = l[k + 1] := ⟨_, rfl⟩
      rw [← hx] at e0 e1 e2 e3 e4
      have HX : Hid (l.getD (k + 1) default = ⟨xac, xid, xin, xqt, xpr⟩) := by rw [hx]; exact getD_lt hkl
      dsimp only at d0 d1 d2 d3 d4 e0 e1 e2 e3 e4
      clear hy hx hA1
      have hord : Hid (ordAt l (k + 1) = decide (cmpL ⟨yac, yid, yin, yqt, ypr⟩ ⟨xac, xid, xin, xqt, xpr⟩ < 0)) := by
        unfold ordAt
        rw [Nat.add_sub_cancel, HX.out, HY.out]
        exact decide_eq_decide.2 (by omega)
      obtain ⟨cr, hcr⟩ : ∃ cr, cr = cmpL ⟨yac, yid, yin, yqt, ypr⟩ ⟨xac, xid, xin, xqt, xpr⟩ := ⟨_, rfl⟩
      have hby : ∀ W', _ := fun W' => by_any ⟨yac, yid, yin, yqt, ypr⟩ ⟨xac, xid, xin, xqt, xpr⟩ W'
      unfold Lc.val at hby
      dsimp only at hby
      rw [← hcr] at hby hord
      have HBYC := Lib.hid hby
      clear hby hcr
      have i1 : (k : Int) + 1 < (n : Int) := by omega
      have i2 : (0 : Int) ≤ (k : Int) + 1 := by omega
      have i4 : IntKind.i64.wrap ((k : Int) + 1 + 1) = (k : Int) + 1 + 1 := IntWalk.i64_in _ (by omega)
      have j2 : IntKind.i64.wrap ((k : Int) + 1 - 1) = (k : Int) := by rw [Int.add_sub_cancel]; exact IntWalk.i64_in _ (by omega)
      have j3 : (0 : Int) ≤ (k : Int) := by omega
      have j4 : (k : Int) < (n : Int) := by omega
      have j5 : (k : Int) + 1 - 1 = (k : Int) := by omega
      have j6 : IntKind.i64.wrap (k : Int) = (k : Int) := IntWalk.i64_in _ (by omega)
      have ld0 := World.block_lt_of_cell? _ _ d0
      have ld1 := World.block_lt_of_cell? _ _ d1
      have ld2 := World.block_lt_of_cell? _ _ d2
      have ld3 := World.block_lt_of_cell? _ _ d3
      have ld4 := World.block_lt_of_cell? _ _ d4
      have le0 := World.block_lt_of_cell? _ _ e0
      have le1 := World.block_lt_of_cell? _ _ e1
      have le2 := World.block_lt_of_cell? _ _ e2
      have le3 := World.block_lt_of_cell? _ _ e3
      have le4 := World.block_lt_of_cell? _ _ e4
      have HS : Hid (∀ w', Below V.heap.size V w' → (fun w' => Below V.heap.size V w' ∧ w'.cell? (a1.add (k * 5)) = some (.int .i64 yac) ∧ w'.cell? ⟨(a1.add (k * 5)).block, (a1.add (k * 5)).off + 1, none⟩ = some (.int .i64 yid) ∧ w'.cell? ⟨(a1.add (k * 5)).block, (a1.add (k * 5)).off + 2, none⟩ = some (.int .i64 yin) ∧ w'.cell? ⟨(a1.add (k * 5)).block, (a1.add (k * 5)).off + 3, none⟩ = some (.int .i64 yqt) ∧ w'.cell? ⟨(a1.add (k * 5)).block, (a1.add (k * 5)).off + 4, none⟩ = some (.int .i64 ypr) ∧ w'.cell? (a1.add ((k + 1) * 5)) = some (.int .i64 xac) ∧ w'.cell? ⟨(a1.add ((k + 1) * 5)).block, (a1.add ((k + 1) * 5)).off + 1, none⟩ = some (.int .i64 xid) ∧ w'.cell? ⟨(a1.add ((k + 1) * 5)).block, (a1.add ((k + 1) * 5)).off + 2, none⟩ = some (.int .i64 xin) ∧ w'.cell? ⟨(a1.add ((k + 1) * 5)).block, (a1.add ((k + 1) * 5)).off + 3, none⟩ = some (.int .i64 xqt) ∧ w'.cell? ⟨(a1.add ((k + 1) * 5)).block, (a1.add ((k + 1) * 5)).off + 4, none⟩ = some (.int .i64 xpr)) w') := fun w' hw =>
        ⟨hw, (hw.cell ld0).trans d0, (hw.cell ld1).trans d1, (hw.cell ld2).trans d2, (hw.cell ld3).trans d3, (hw.cell ld4).trans d4, (hw.cell le0).trans e0, (hw.cell le1).trans e1, (hw.cell le2).trans e2, (hw.cell le3).trans e3, (hw.cell le4).trans e4⟩
      have hVs := HB.out.size
      go_upto_region 4 with (fail)
      go_region_held (fun w' => Below V.heap.size V w' ∧ w'.cell? (a1.add (k * 5)) = some (.int .i64 yac) ∧ w'.cell? ⟨(a1.add (k * 5)).block, (a1.add (k * 5)).off + 1, none⟩ = some (.int .i64 yid) ∧ w'.cell? ⟨(a1.add (k * 5)).block, (a1.add (k * 5)).off + 2, none⟩ = some (.int .i64 yin) ∧ w'.cell? ⟨(a1.add (k * 5)).block, (a1.add (k * 5)).off + 3, none⟩ = some (.int .i64 yqt) ∧ w'.cell? ⟨(a1.add (k * 5)).block, (a1.add (k * 5)).off + 4, none⟩ = some (.int .i64 ypr) ∧ w'.cell? (a1.add ((k + 1) * 5)) = some (.int .i64 xac) ∧ w'.cell? ⟨(a1.add ((k + 1) * 5)).block, (a1.add ((k + 1) * 5)).off + 1, none⟩ = some (.int .i64 xid) ∧ w'.cell? ⟨(a1.add ((k + 1) * 5)).block, (a1.add ((k + 1) * 5)).off + 2, none⟩ = some (.int .i64 xin) ∧ w'.cell? ⟨(a1.add ((k + 1) * 5)).block, (a1.add ((k + 1) * 5)).off + 3, none⟩ = some (.int .i64 xqt) ∧ w'.cell? ⟨(a1.add ((k + 1) * 5)).block, (a1.add ((k + 1) * 5)).off + 4, none⟩ = some (.int .i64 xpr))
        (first
          | with_reducible assumption
          | (refine HS.out _ ?_; first | with_reducible exact HW2.out | with_reducible exact (Below.refl _ _).drew))
        (first
          | (go_at_call 41; refine (HBYC.out _).mono ?_; rintro e w2 ⟨rfl, hb2⟩; obtain ⟨hB, -⟩ := ‹Below V.heap.size V _ ∧ _›; have HW2 : Hid (Below V.heap.size V w2) := hB.trans (hb2.mono hB.size); clear hb2 hB))
      all_goals
        by_cases hc0 : cr < 0
        · have ho : ordAt l (k + 1) = true := by rw [hord.out]; exact decide_eq_true hc0
          have hu : upto (ordAt l) (k + 1 + 1) = true := by rw [upto_succ, HP.out, ho]; rfl
          have HU := Lib.hid hu
          clear hu ho
          go_wp2
          exact ⟨⟨k + 1, .inl (by omega), by push_cast; rfl, HU.out, HB.out.trans (HW2.out.mono hVs)⟩, by simp only [intOf]; omega⟩
        · have ho : ordAt l (k + 1) = false := by rw [hord.out]; exact decide_eq_false hc0
          have e : r = false := by rw [HR.out]; exact upto_false (k := k + 1) hkl ho
          subst e
          clear ho
          go_wp2
          go_ret
          exact ⟨rfl, HB.out.trans (HW2.out.mono hVs)⟩
    · have i3 : ¬ ((k : Int) + 1 < (n : Int)) := by omega
      have e : r = true := by
        rw [HR.out]
        unfold riseB
        rw [HL.out, upto_iff]
        intro j hj
        exact (upto_iff _ _).1 HP.out j (by omega)
      subst e
      go_wp2
      go_ret
      exact ⟨rfl, HB.out⟩

end Go.Proofs.Ytiapbgbbeakoiaa.O
