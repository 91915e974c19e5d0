/- Walk: Insert in place. By gen_b.py. -/
import Derived.Test.YtiapbgbbeakoiaaOI
namespace Go.Proofs.Ytiapbgbbeakoiaa.O
open Go.RowKit

set_option maxHeartbeats 2000000 in
theorem insert_shift (base n c p vb g : Nat) (l : List Lc) (x : Lc) (cur : Array Value) (w : World) (hb : base ≤ g) (hB : Bk w g 38 cur) (hnc : n + 1 ≤ c) (hcm : c ≤ maxLen) (hsz : cur.size = c * 5) (hl : l.length = n) (ht : cur.toList.take (n * 5) = lcs l) (hp : p < n) (hne : vb ≠ g)
    (hv : Bk w vb 38 #[.int .i64 x.acct, .int .i64 x.id, .int .i64 x.instr, .int .i64 x.qty, .int .i64 x.price]) :
    Calls Try.prog 42 #[.slice (some ⟨g, 0, none⟩) n c, .int .i64 (p : Int), .slice (some ⟨vb, 0, none⟩) 1 1] w (InsOut base w (l.take p ++ x :: l.drop p)) := by
  unfold maxLen at hcm
  have hcl : (lcs l).length = n * 5 := by rw [lcs_len, hl]
  have hrd : ∀ j v, (lcs l)[j]? = some v → w.cell? ⟨g, j, none⟩ = some v := fun j v hj => by
    rw [hB.cell, ← Array.getElem?_toList]
    have hjl := (List.getElem?_eq_some_iff.1 hj).1
    rw [← ht, List.getElem?_take_of_lt (by omega)] at hj
    exact hj
  have add0 : ∀ b j k : Nat, (⟨b, j, none⟩ : Addr).add k = ⟨b, j + k, none⟩ := fun b j k => by
    unfold Addr.add
    split
    · simp_all
    · rfl
  have hov : ∀ lb cb, (callFunc 59 #[.slice (some ⟨vb, 0, none⟩) 1 1, .slice (some ⟨g, (p + 1) * 5, none⟩) lb cb]).run Try.prog w = .ok (.value (.bool false)) w := fun lb cb => by
    rw [run_callFunc_extern Try.func59 (by kernel_rfl) (by kernel_rfl) (by kernel_rfl) (e := Extern.SlicesOverlaps.overlaps #[32, 32] #[4]) (by kernel_rfl),
      Lib.run_overlaps_apart w 32 4 38 Try.underlying32 5 Try.sizeOf38 ⟨vb, 0, none⟩ ⟨g, (p + 1) * 5, none⟩ 1 1 lb cb hne 38 38 5 (c * 5) (by rw [shape_bk hv]; rfl) (by rw [shape_bk hB, hsz]) (by omega) (hv.frozen 0) (hv.frozen 5)]
    rfl
  have hxS : x.cells.length = 5 := rfl
  have hdl : (lcs (l.drop p)).length = (n - p) * 5 := by rw [lcs_len, List.length_drop, hl]
  have m1 : Nat.min 1 (n + 1 - p) = 1 := Nat.min_eq_left (by omega)
  have m2 : Nat.min (n + 1 - p) (n - p) = n - p := Nat.min_eq_right (by omega)
  obtain ⟨W1, hW1⟩ : ∃ W1, W1 = w.drew.setCells g ((p + 1) * 5) (lcs (l.drop p)) := ⟨_, rfl⟩
  have hcp1 : ∀ ty, (Builtin.copy_ #[32, 32] ty #[.slice (some ⟨g, (p + 1) * 5, none⟩) (n - p) (c - (p + 1)), .slice (some ⟨g, p * 5, none⟩) (n + 1 - p) (c - p)]).run Try.prog w.drew = .ok (.int .i64 ((n - p : Nat) : Int)) W1 := fun ty => by
    have h := run_copyS w.drew ty g ((p + 1) * 5) (n - p) (c - (p + 1)) ⟨g, p * 5, none⟩ (n + 1 - p) (c - p) (lcs (l.drop p)) (by rw [hdl, m2])
      (fun j v hj => by rw [add0]; rw [← lcs_drop, List.getElem?_drop] at hj; exact hrd _ v hj) (fun j hj => by rw [hB.drew.cell, Array.getElem?_eq_getElem (by omega)]; rfl) (fun j _ => hB.drew.frozen _) (lcs_one _)
    rw [← hW1, m2] at h
    exact h
  have hB1 : Bk W1 g 38 (ow cur ((p + 1) * 5) (lcs (l.drop p))) := by rw [hW1]; exact Bk.cells _ _ hB.drew
  have hs1 : (ow cur ((p + 1) * 5) (lcs (l.drop p))).size = c * 5 := by rw [ow_size]; exact hsz
  have hv1 : Bk W1 vb 38 #[.int .i64 x.acct, .int .i64 x.id, .int .i64 x.instr, .int .i64 x.qty, .int .i64 x.price] := by
    rw [hW1]
    have far : ∀ (vs : List Value) (o : Nat) (V : World), Bk V vb 38 #[.int .i64 x.acct, .int .i64 x.id, .int .i64 x.instr, .int .i64 x.qty, .int .i64 x.price] → Bk (V.setCells g o vs) vb 38 #[.int .i64 x.acct, .int .i64 x.id, .int .i64 x.instr, .int .i64 x.qty, .int .i64 x.price] := fun vs => by
      induction vs with
      | nil => exact fun _ _ h => h
      | cons v r ih => exact fun o V h => by rw [World.setCells]; exact ih _ _ (h.far (p := ⟨g, o, none⟩) hne v)
    exact far _ _ _ hv.drew
  have hcp2 : ∀ ty, (Builtin.copy_ #[32, 32] ty #[.slice (some ⟨g, p * 5, none⟩) (n + 1 - p) (c - p), .slice (some ⟨vb, 0, none⟩) 1 1]).run Try.prog W1 = .ok (.int .i64 1) (W1.setCells g (p * 5) x.cells) := fun ty => by
    have h := run_copyS W1 ty g (p * 5) (n + 1 - p) (c - p) ⟨vb, 0, none⟩ 1 1 x.cells (by rw [hxS, m1])
      (fun j v hj => by rw [add0, Nat.zero_add, hv1.cell, ← Array.getElem?_toList]; exact hj) (fun j hj => by rw [hB1.cell, Array.getElem?_eq_getElem (by rw [hs1]; omega)]; rfl) (fun j _ => hB1.frozen _) (cells_one x)
    rw [m1] at h
    exact h
  have hfl : (l.take p ++ x :: l.drop p).length = n + 1 := by rw [List.length_append, List.length_cons, List.length_take, List.length_drop, hl]; omega
  have fin : (W1.setCells g (p * 5) x.cells).ownsRow base 38 5 (.slice (some ⟨g, 0, none⟩) (n + 1) c) (n + 1) (lcs (l.take p ++ x :: l.drop p)) := by
    refine own_shut hb (Bk.cells _ _ hB1) hnc (by unfold maxLen; omega) (by rw [ow_size]; exact hs1) hfl ?_
    have e1 : lcs (l.take p ++ x :: l.drop p) = lcs (l.take p) ++ (x.cells ++ lcs (l.drop p)) := by rw [lcs_append]; rfl
    have e0 : cur.toList.take (p * 5) = lcs (l.take p) := by rw [← lcs_take, ← ht, List.take_take, Nat.min_eq_left (by omega)]
    have hcl2 : cur.toList.length = c * 5 := by simpa using hsz
    have hL1 := ow_list (lcs (l.drop p)) cur ((p + 1) * 5) (by rw [hsz, hdl]; omega)
    have h1 : (ow cur ((p + 1) * 5) (lcs (l.drop p))).toList.take (p * 5) = lcs (l.take p) := by
      rw [hL1, List.take_append_of_le_length (by rw [List.length_take, hcl2]; omega), List.take_take, Nat.min_eq_left (by omega), e0]
    have h2 : (ow cur ((p + 1) * 5) (lcs (l.drop p))).toList.drop (p * 5 + 5) = lcs (l.drop p) ++ cur.toList.drop ((p + 1) * 5 + (lcs (l.drop p)).length) := by
      rw [show p * 5 + 5 = (p + 1) * 5 by omega, hL1]
      exact List.drop_left' (by rw [List.length_take, hcl2]; omega)
    rw [ow_list _ _ _ (by rw [hs1, hxS]; omega), hxS, h1, h2, e1, ← List.append_assoc x.cells, ← List.append_assoc (lcs (l.take p))]
    exact List.take_left' (by simp only [List.length_append, lcs_len, List.length_take, List.length_drop, hl, hxS]; omega)
  have FIN := Lib.hid fin
  have HBL : Hid (Below base w (W1.setCells g (p * 5) x.cells)) := Below.cells hb _ _ (by rw [hW1]; exact Below.cells hb _ _ (Below.refl _ _).drew)
  have HFL := Lib.hid hfl
  clear m1 m2 add0 fin hfl hdl hs1 hB1 hv1 hxS hW1 hrd hcl ht hl hsz hB hv
  have j1 : (0 : Int) ≤ (p : Int) := by omega
  have j2 : (p : Int) ≤ (n : Int) := by omega
  have j3 : ¬ ((p : Int) = (n : Int)) := by omega
  have j4 : ¬ ((c : Int) < (n : Int) + 1) := by omega
  have j5 : IntKind.i64.wrap ((n : Int) + 1) = (n : Int) + 1 := IntWalk.i64_in _ (by omega)
  have j7 : IntKind.i64.wrap ((p : Int) + 1) = (p : Int) + 1 := IntWalk.i64_in _ (by omega)
  have j8 : ((p : Int) + 1).toNat = p + 1 := by omega
  have j9 : (0 : Int) ≤ (p : Int) + 1 := by omega
  have j10 : (p : Int) ≤ (n : Int) + 1 := by omega
  have j11 : ¬ (c = p) := by omega
  have j12 : ¬ (c = p + 1) := by omega
  have j14 : (p : Int) + 1 ≤ (n : Int) + 1 := by omega
  have j15 : (0 : Int) ≤ (n : Int) + 1 := by omega
  have j16 : (n : Int) + 1 ≤ (c : Int) := by omega
  have j17 : ((n : Int) + 1).toNat = n + 1 := by omega
  have j18 : (n : Int) ≤ (c : Int) := by omega
  go_enter Try.func42, Try.ntmps42
  go_upto_region 15 with (simp only [hov])
  go_region_law (refine step_copy_run rfl (.tmp 73) (.tmp 76) 32 32 rfl (.slice (some ⟨g, (p + 1) * 5, none⟩) (n - p) (c - (p + 1))) (.slice (some ⟨g, p * 5, none⟩) (n + 1 - p) (c - p)) (by simp [Act.eval, Act.put]) (by simp [Act.eval, Act.put]) (hcp1 _) ?_)
  all_goals
    go_wp2_with (at_builtin; refine wpList_copy_run _ rfl _ _ 32 32 rfl _ _ rfl rfl (hcp2 _) ?_)
    go_ret
    exact ⟨some ⟨g, 0, none⟩, c, by rw [HFL.out]; rfl, by rw [HFL.out]; exact hnc, by unfold maxLen; omega, by rw [HFL.out]; exact FIN.out, HBL.out⟩

end Go.Proofs.Ytiapbgbbeakoiaa.O
