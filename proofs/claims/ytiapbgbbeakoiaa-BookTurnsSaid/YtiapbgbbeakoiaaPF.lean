/- Walk: BinarySearchFunc. By gen_b.py. -/
import Derived.Test.YtiapbgbbeakoiaaPC
namespace Go.Proofs.Ytiapbgbbeakoiaa.P
open Go.RowKit

set_option maxHeartbeats 4000000 in
theorem bsf_any (A : Option Addr) (n c : Nat) (l : List Lc) (x : Lc) (w : World) (hs : Sorted l) (hn : n * 24 ≤ 140737488355328) (hr : Rd w w.heap.size 3 A n (lcs l)) :
    Calls Try.prog 34 #[.slice A n c, x.val, .func (.func 35) #[] #[]] w fun e w' => e = .returned (.tuple #[.int .i64 (place l x : Nat), .bool (thereB l x)]) ∧ Below w.heap.size w w' := by
  have hl : l.length = n := by have := hr.1; rw [lcs_len] at this; omega
  obtain ⟨W, hW⟩ : ∃ W, W = w.alloc (.cells #[.int .i64 x.acct, .int .i64 x.instr, .int .i64 x.qty] 36) := ⟨_, rfl⟩
  have HBX : Hid (Bk W w.heap.size 36 #[.int .i64 x.acct, .int .i64 x.instr, .int .i64 x.qty]) := by rw [hW]; exact Bk.new _ _ _
  have HBL : Hid (Below w.heap.size w W) := by rw [hW]; exact (Below.refl _ w).alloc (Nat.le_refl _) _
  have HRW : Hid (Rd W w.heap.size 3 A n (lcs l)) := by rw [hW]; exact hr.alloc (Nat.le_refl _) _
  obtain ⟨b, hb⟩ : ∃ b, b = w.heap.size := ⟨_, rfl⟩
  obtain ⟨pl, hpl⟩ : ∃ pl, pl = place l x := ⟨_, rfl⟩
  obtain ⟨th, hth⟩ : ∃ th, th = thereB l x := ⟨_, rfl⟩
  have HPL := Lib.hid hpl
  have HTH := Lib.hid hth
  have HL := Lib.hid hl
  have HSO := Lib.hid hs
  rw [← hpl, ← hth]
  rw [← hb] at HBX HBL HRW
  have HBB := Lib.hid hb
  clear hr hl hs hpl hth
  unfold Lc.val
  go_enter Try.func34, Try.ntmps34
  go_wp2
  rw [← hW, ← hb]
  clear hW hb
  go_loopw [9, 10] (fun vi vj wr => ∃ i j : Nat, vi = .int .i64 i ∧ vj = .int .i64 j ∧ i ≤ j ∧ j ≤ n ∧ (∀ m, m < i → cmpL (l.getD m default) x < 0) ∧ (∀ m, j ≤ m → m < n → ¬ cmpL (l.getD m default) x < 0) ∧ Below W.heap.size W wr) (fun vi vj _ => (intOf vj - intOf vi).toNat)
  case atStart => exact ⟨0, n, rfl, rfl, Nat.zero_le _, Nat.le_refl _, fun m hm => absurd hm (Nat.not_lt_zero _), fun m h1 h2 => absurd h2 (by omega), Below.refl _ _⟩
  case round =>
    obtain ⟨i, j, rfl, rfl, hij, hjn, hlow, hhigh, hbl⟩ := hrel
    have HLO := Lib.hid hlow
    have HHI := Lib.hid hhigh
    have HB := Lib.hid hbl
    clear hlow hhigh hbl
    rename World => V
    by_cases hlt : i < j
    · have i1 : (i : Int) < (j : Int) := by omega
      have i2 : IntKind.i64.wrap ((i : Int) + (j : Int)) = (i : Int) + (j : Int) := IntWalk.i64_in _ (by omega)
      go_upto_region 5 with (fail)
      obtain ⟨h, hh⟩ : ∃ h : Nat, (h : Int) = ((i : Int) + (j : Int)) / 2 := ⟨(i + j) / 2, by omega⟩
      rw [← hh]
      have h1 : i ≤ h := by omega
      have h2 : h < j := by omega
      clear hh i2
      have hhl : h < l.length := by have := HL.out; omega
      have hbW : b ≤ W.heap.size := Nat.le_of_lt HBX.out.lt
      obtain ⟨a0, hA, hab, c0, c1, c2⟩ := rd_loc (HRW.out.below (HB.out.mono hbW)) hhl
      subst hA
      obtain ⟨⟨yac, yin, yqt⟩, hy⟩ : ∃ y, y = l[h] := ⟨_, rfl⟩
      rw [← hy] at c0 c1 c2
      have HY : Hid (l.getD h default = ⟨yac, yin, yqt⟩) := by rw [hy]; exact getD_lt hhl
      dsimp only at c0 c1 c2
      clear hy
      obtain ⟨r, hrr⟩ : ∃ r, r = cmpL ⟨yac, yin, yqt⟩ x := ⟨_, rfl⟩
      have hby : ∀ W' : World, _ := fun W' => by_any ⟨yac, yin, yqt⟩ x W'
      unfold Lc.val at hby
      dsimp only at hby
      rw [← hrr] at hby
      have HBY := Lib.hid hby
      have HRR := Lib.hid hrr
      clear hby hrr
      have HBX1 : Hid (Bk V b 36 #[.int .i64 x.acct, .int .i64 x.instr, .int .i64 x.qty]) := HBX.out.below HB.out HBX.out.lt
      have hVW := HB.out.size
      have l0 := World.block_lt_of_cell? _ _ c0
      have l1 := World.block_lt_of_cell? _ _ c1
      have l2 := World.block_lt_of_cell? _ _ c2
      have HS : Hid (∀ w', Below V.heap.size V w' → (fun w' => Below V.heap.size V w' ∧ w'.cell? ⟨b, 0, none⟩ = some (.int .i64 x.acct) ∧ w'.cell? ⟨b, 1, none⟩ = some (.int .i64 x.instr) ∧ w'.cell? ⟨b, 2, none⟩ = some (.int .i64 x.qty) ∧ w'.cell? (a0.add (h * 3)) = some (.int .i64 yac) ∧ w'.cell? ⟨(a0.add (h * 3)).block, (a0.add (h * 3)).off + 1, none⟩ = some (.int .i64 yin) ∧ w'.cell? ⟨(a0.add (h * 3)).block, (a0.add (h * 3)).off + 2, none⟩ = some (.int .i64 yqt)) w') := fun w' hw => by
        have a := (HBX1.out.below hw HBX1.out.lt).three
        exact ⟨hw, a.1, a.2.1, a.2.2.1, (hw.cell l0).trans c0, (hw.cell l1).trans c1, (hw.cell l2).trans c2⟩
      have j1 : (0 : Int) ≤ (h : Int) := by omega
      have j2 : (h : Int) < (n : Int) := by omega
      have j3 : IntKind.i64.wrap ((h : Int) + 1) = (h : Int) + 1 := IntWalk.i64_in _ (by omega)
      go_region_held (fun w' => Below V.heap.size V w' ∧ w'.cell? ⟨b, 0, none⟩ = some (.int .i64 x.acct) ∧ w'.cell? ⟨b, 1, none⟩ = some (.int .i64 x.instr) ∧ w'.cell? ⟨b, 2, none⟩ = some (.int .i64 x.qty) ∧ w'.cell? (a0.add (h * 3)) = some (.int .i64 yac) ∧ w'.cell? ⟨(a0.add (h * 3)).block, (a0.add (h * 3)).off + 1, none⟩ = some (.int .i64 yin) ∧ w'.cell? ⟨(a0.add (h * 3)).block, (a0.add (h * 3)).off + 2, none⟩ = some (.int .i64 yqt))
        (first
          | with_reducible assumption
          | (refine HS.out _ ?_; first | with_reducible exact HW2.out | with_reducible exact (Below.refl _ _).drew))
        (first
          | (go_at_call 35; refine (HBY.out _).mono ?_; rintro e w2 ⟨rfl, hb2⟩; obtain ⟨hB, -⟩ := ‹Below V.heap.size V _ ∧ _›; have HW2 : Hid (Below V.heap.size V w2) := hB.trans (hb2.mono hB.size); clear hb2 hB))
      all_goals
        by_cases hr0 : r < 0
        · go_wp2
          refine ⟨⟨h + 1, j, by push_cast; rfl, rfl, by omega, hjn, fun m hm => ?_, fun m h3 h4 => by have := HHI.out m h3 h4; omega, HB.out.trans (HW2.out.mono hVW)⟩, by simp only [intOf]; omega⟩
          refine HSO.out.low (Nat.le_of_lt_succ hm) hhl ?_
          rw [HY.out, ← HRR.out]
          exact hr0
        · go_wp2
          refine ⟨⟨i, h, rfl, rfl, h1, by omega, HLO.out, fun m hm hm2 => ?_, HB.out.trans (HW2.out.mono hVW)⟩, by simp only [intOf]; omega⟩
          refine HSO.out.high hm (by have := HL.out; omega) ?_
          rw [HY.out, ← HRR.out]
          exact hr0
    · have hieq : i = j := by omega
      subst hieq
      have hp : pl = i := by
        rw [HPL.out]
        exact place_eq (by have := HL.out; omega) HLO.out fun m h1 h2 => by have := HHI.out m h1 (by have := HL.out; omega); omega
      subst hp
      have i1 : ¬ ((pl : Int) < (pl : Int)) := by omega
      by_cases hpn : pl < n
      · have hhl : pl < l.length := by have := HL.out; omega
        have hbW : b ≤ W.heap.size := Nat.le_of_lt HBX.out.lt
        obtain ⟨a0, hA, hab, c0, c1, c2⟩ := rd_loc (HRW.out.below (HB.out.mono hbW)) hhl
        subst hA
        obtain ⟨⟨yac, yin, yqt⟩, hy⟩ : ∃ y, y = l[pl] := ⟨_, rfl⟩
        rw [← hy] at c0 c1 c2
        have HY : Hid (l.getD pl default = ⟨yac, yin, yqt⟩) := by rw [hy]; exact getD_lt hhl
        dsimp only at c0 c1 c2
        clear hy
        obtain ⟨r, hrr⟩ : ∃ r, r = cmpL ⟨yac, yin, yqt⟩ x := ⟨_, rfl⟩
        have hby : ∀ W' : World, _ := fun W' => by_any ⟨yac, yin, yqt⟩ x W'
        unfold Lc.val at hby
        dsimp only at hby
        rw [← hrr] at hby
        have HBY := Lib.hid hby
        have ht : th = decide (r = 0) := by
          rw [HTH.out, hrr, ← HY.out]
          unfold thereB
          rw [← HPL.out, decide_eq_true hhl]
          simp
        clear hby hrr
        have HBX1 : Hid (Bk V b 36 #[.int .i64 x.acct, .int .i64 x.instr, .int .i64 x.qty]) := HBX.out.below HB.out HBX.out.lt
        have hVW := HB.out.size
        have l0 := World.block_lt_of_cell? _ _ c0
        have l1 := World.block_lt_of_cell? _ _ c1
        have l2 := World.block_lt_of_cell? _ _ c2
        have HS : Hid (∀ w', Below V.heap.size V w' → (fun w' => Below V.heap.size V w' ∧ w'.cell? ⟨b, 0, none⟩ = some (.int .i64 x.acct) ∧ w'.cell? ⟨b, 1, none⟩ = some (.int .i64 x.instr) ∧ w'.cell? ⟨b, 2, none⟩ = some (.int .i64 x.qty) ∧ w'.cell? (a0.add (pl * 3)) = some (.int .i64 yac) ∧ w'.cell? ⟨(a0.add (pl * 3)).block, (a0.add (pl * 3)).off + 1, none⟩ = some (.int .i64 yin) ∧ w'.cell? ⟨(a0.add (pl * 3)).block, (a0.add (pl * 3)).off + 2, none⟩ = some (.int .i64 yqt)) w') := fun w' hw => by
          have a := (HBX1.out.below hw HBX1.out.lt).three
          exact ⟨hw, a.1, a.2.1, a.2.2.1, (hw.cell l0).trans c0, (hw.cell l1).trans c1, (hw.cell l2).trans c2⟩
        have j1 : (0 : Int) ≤ (pl : Int) := by omega
        have j2 : (pl : Int) < (n : Int) := by omega
        go_upto_region 8 with (fail)
        go_region_held (fun w' => Below V.heap.size V w' ∧ w'.cell? ⟨b, 0, none⟩ = some (.int .i64 x.acct) ∧ w'.cell? ⟨b, 1, none⟩ = some (.int .i64 x.instr) ∧ w'.cell? ⟨b, 2, none⟩ = some (.int .i64 x.qty) ∧ w'.cell? (a0.add (pl * 3)) = some (.int .i64 yac) ∧ w'.cell? ⟨(a0.add (pl * 3)).block, (a0.add (pl * 3)).off + 1, none⟩ = some (.int .i64 yin) ∧ w'.cell? ⟨(a0.add (pl * 3)).block, (a0.add (pl * 3)).off + 2, none⟩ = some (.int .i64 yqt))
          (first
            | with_reducible assumption
            | (refine HS.out _ ?_; first | with_reducible exact HW2.out | with_reducible exact (Below.refl _ _).drew))
          (first
            | (go_at_call 35; refine (HBY.out _).mono ?_; rintro e w2 ⟨rfl, hb2⟩; obtain ⟨hB, -⟩ := ‹Below V.heap.size V _ ∧ _›; have HW2 : Hid (Below V.heap.size V w2) := hB.trans (hb2.mono hB.size); clear hb2 hB))
        all_goals
          go_wp2
          go_ret2
          refine ⟨by rw [ht]; rfl, ?_⟩
          rw [← HBB.out]
          exact HBL.out.trans ((HB.out.trans (HW2.out.mono hVW)).mono hbW)
      · have hpe : pl = n := by omega
        have ht : th = false := by
          rw [HTH.out]
          unfold thereB
          rw [← HPL.out, decide_eq_false (by have := HL.out; omega)]
          rfl
        subst ht
        have j2 : ¬ ((pl : Int) < (n : Int)) := by omega
        have hbW : b ≤ W.heap.size := Nat.le_of_lt HBX.out.lt
        go_upto_region 8 with (fail)
        go_quiet (fail)
        go_wp2
        go_ret2
        refine ⟨rfl, ?_⟩
        rw [← HBB.out]
        have hbl := HBL.out.trans (HB.out.mono hbW)
        exact ⟨hbl.os, hbl.tape, hbl.output, hbl.size, hbl.block⟩

end Go.Proofs.Ytiapbgbbeakoiaa.P
