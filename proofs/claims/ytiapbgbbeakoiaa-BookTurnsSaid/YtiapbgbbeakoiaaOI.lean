/- Walk: Insert. By gen_b.py. -/
import Derived.Test.YtiapbgbbeakoiaaOD
namespace Go.Proofs.Ytiapbgbbeakoiaa.O
open Go.RowKit

theorem run_copyS (w : World) (ty : TypeId) (b o dLen dCap : Nat) (a : Addr) (sLen sCap : Nat) (cs : List Value) (hn : cs.length = Nat.min sLen dLen * 5)
    (hsrc : ∀ j v, cs[j]? = some v → w.cell? (a.add j) = some v) (hc : ∀ j, j < cs.length → (w.cell? ⟨b, o + j, none⟩).isSome = true) (hf : ∀ j, j < cs.length → w.frozen? ⟨b, o + j, none⟩ = false) (h1 : ∀ v ∈ cs, v.oneCell' = true) :
    (Builtin.copy_ #[32, 32] ty #[.slice (some ⟨b, o, none⟩) dLen dCap, .slice (some a) sLen sCap]).run Try.prog w = .ok (goInt (Nat.min sLen dLen)) (w.setCells b o cs) := by
  have hl := run_loadCells_list (P := Try.prog) w a cs hsrc
  have hst := run_storeCells_cells (P := Try.prog) b o cs 0 w (by simpa using hc) (by simpa using hf) h1
  obtain ⟨i0, hi0, hz0, hz1, hz2⟩ := info_parts info38
  rw [hn] at hl
  simp [Builtin.copy_, run_underlying Try.underlying32, Builtin.lenOf, Builtin.firstCells, sizeOf, typeInfo, hi0, hz1, hl, hst]

/-- What Insert leaves. -/
def InsOut (base : Nat) (w : World) (ys : List Lc) (e : Ending) (w' : World) : Prop :=
  ∃ A c, e = .returned (.slice A ys.length c) ∧ ys.length ≤ c ∧ c ≤ maxLen ∧ w'.ownsRow base 38 5 (.slice A ys.length c) ys.length (lcs ys) ∧ Below base w w'

theorem lcs_single (x : Lc) : lcs [x] = x.cells := by simp [lcs]
theorem rd_one {w : World} {vb : Nat} {x : Lc} (h : Bk w vb 38 #[.int .i64 x.acct, .int .i64 x.id, .int .i64 x.instr, .int .i64 x.qty, .int .i64 x.price]) : Rd w (vb + 1) 5 (some ⟨vb, 0, none⟩) 1 x.cells :=
  ⟨rfl, fun _ => ⟨_, rfl, by simp, World.news_of_block h⟩⟩

set_option maxHeartbeats 1000000 in
theorem insert_end (base n c vb : Nat) (A : Option Addr) (l : List Lc) (x : Lc) (w : World) (hown : w.ownsRow base 38 5 (.slice A n c) n (lcs l)) (hl : l.length = n) (hn : (n + 1) * 40 ≤ 140737488355328) (hbase : base ≤ w.heap.size)
    (hv : Bk w vb 38 #[.int .i64 x.acct, .int .i64 x.id, .int .i64 x.instr, .int .i64 x.qty, .int .i64 x.price]) :
    Calls Try.prog 42 #[.slice A n c, .int .i64 (n : Int), .slice (some ⟨vb, 0, none⟩) 1 1] w (InsOut base w (l ++ [x])) := by
  obtain ⟨A0, c0, hc0, hc1, hc2⟩ := own_form hown
  injection hc0 with hA0 _ hc0
  subst hA0 hc0
  obtain ⟨i0, hi0, hz0, hz1, hz2⟩ := info_parts info38
  have hr := rd_one hv
  have HO := Lib.hid hown
  have HL := Lib.hid hl
  clear hown hl hv
  unfold maxLen at hc2
  have j1 : (0 : Int) ≤ (n : Int) := by omega
  have j2 : (n : Int) ≤ (c : Int) := by omega
  go_enter Try.func42, Try.ntmps42
  go_wp2_with (at_builtin; go_must (refine wpList_append_rd _ rfl (.tmp 23) (.tmp 24) _ rfl base 38 i0 _ 5 40 Try.underlying32 hi0 hz0 hz1 hz2 rfl (by omega) _ n (lcs l) rfl HO.out (vb + 1) _ 1 1 _ rfl hr (cells_one x) (by unfold maxLen; omega) (by omega) hbase ?_); intro A1 c1 w1 h1 h2 hown1 hg1 hat1)
  all_goals
    go_ret
    have hll : (l ++ [x]).length = n + 1 := by rw [List.length_append, HL.out]; rfl
    refine ⟨A1, c1, by rw [hll]; rfl, by rw [hll]; exact h1, h2, by rw [hll, lcs_append, lcs_single]; exact hown1, (Below.refl base w).grown hg1 hbase fun k hk => (HO.out.lt k hk).1⟩

set_option maxHeartbeats 2000000 in
theorem insert_grow (base n p vb g : Nat) (l : List Lc) (x : Lc) (cur : Array Value) (w : World) (hbase : base ≤ w.heap.size) (hB : Bk w g 38 cur) (hsz : cur.size = n * 5) (hl : l.length = n) (ht : cur.toList.take (n * 5) = lcs l) (hn : (n + 1) * 40 ≤ 140737488355328) (hp : p < n)
    (hv : Bk w vb 38 #[.int .i64 x.acct, .int .i64 x.id, .int .i64 x.instr, .int .i64 x.qty, .int .i64 x.price]) :
    Calls Try.prog 42 #[.slice (some ⟨g, 0, none⟩) n n, .int .i64 (p : Int), .slice (some ⟨vb, 0, none⟩) 1 1] w (InsOut base w (l.take p ++ x :: l.drop p)) := by
  obtain ⟨i0, hi0, hz0, hz1, hz2⟩ := info_parts info38
  have hcl : (lcs l).length = n * 5 := by rw [lcs_len, hl]
  have hrd : ∀ j v, (lcs l)[j]? = some v → w.cell? ⟨g, j, none⟩ = some v := fun j v hj => by
    rw [hB.cell, ← Array.getElem?_toList]
    have hjl := (List.getElem?_eq_some_iff.1 hj).1
    rw [← ht, List.getElem?_take_of_lt (by omega)] at hj
    exact hj
  have add0 : ∀ b j k : Nat, (⟨b, j, none⟩ : Addr).add k = ⟨b, j + k, none⟩ := fun b j k => by
    unfold Addr.add
    split
    · simp_all
    · rfl
  have hold : (Builtin.firstCells i0.size p (.slice (some ⟨g, 0, none⟩) p n)).run Try.prog w.drew = .ok (lcs (l.take p)).toArray w.drew := by
    rw [hz1]
    exact run_firstCells_some w.drew 5 p ⟨g, 0, none⟩ p n (lcs (l.take p)) (by rw [lcs_len, List.length_take]; omega) (fun j v hj => by
      rw [add0, Nat.zero_add]
      rw [← lcs_take, List.getElem?_take] at hj
      split at hj
      · exact hrd j v hj
      · cases hj)
  obtain ⟨G, hG⟩ : ∃ G, G = grownCap w (n + 1) n 38 := ⟨_, rfl⟩
  have hGn : n + 1 ≤ G := by rw [hG]; exact grownCap_ge w _ _ _
  have hG63 : G ≤ maxLen := by rw [hG]; exact grownCap_le_maxLen w _ _ _ (by unfold maxLen; omega)
  obtain ⟨ROW, hROW⟩ : ∃ ROW : Array Value, ROW = (lcs (l.take p)).toArray ++ Builtin.zeroCells (Value.agg #[.int .i64 0, .int .i64 0, .int .i64 0, .int .i64 0, .int .i64 0]).cells (n + 1 - p) ++ Builtin.zeroCells (Value.agg #[.int .i64 0, .int .i64 0, .int .i64 0, .int .i64 0, .int .i64 0]).cells (G - (n + 1)) := ⟨_, rfl⟩
  have hrz : ∀ ty, (Builtin.append_ #[32, 3] ty #[.slice (some ⟨g, 0, none⟩) p n, .int .i64 ((n : Int) + 1 - (p : Int))]).run Try.prog w = .ok (.slice (some ⟨w.heap.size, 0, none⟩) (n + 1) G) (w.drew.alloc (.cells ROW 38)) := fun ty => by
    have h := Lib.run_append_grow_zeros w 32 3 ty 38 i0 _ .i64 .i64 Try.underlying32 Try.underlying3 hi0 hz0 (some ⟨g, 0, none⟩) p n (lcs (l.take p)) hold (n + 1 - p) (by omega) (by omega) (by omega) (by omega) (by rw [hz2]; omega) (by rw [hz2, show p + (n + 1 - p) = n + 1 by omega]; exact growslice_fits (by omega) (by omega))
    rw [show p + (n + 1 - p) = n + 1 by omega, ← hG, ← hROW] at h
    rw [show (n : Int) + 1 - (p : Int) = ((n + 1 - p : Nat) : Int) by omega]
    exact h
  have hRs : ROW.size = G * 5 := by
    rw [hROW]
    simp only [Array.size_append, List.size_toArray, lcs_len, List.length_take, Builtin.zeroCells]
    simp [Value.cells]
    omega
  have hRt : ROW.toList.take (p * 5) = lcs (l.take p) := by
    rw [hROW]
    simp only [Array.toList_append]
    rw [List.append_assoc, List.take_append_of_le_length (by simp only [lcs_len, List.length_take]; omega), List.take_of_length_le (by simp only [lcs_len, List.length_take]; omega)]
  obtain ⟨N, hN⟩ : ∃ N, N = w.heap.size := ⟨_, rfl⟩
  have hbN : g < N := by rw [hN]; exact hB.lt
  have hvN : vb < N := by rw [hN]; exact hv.lt
  rw [← hN] at hrz
  obtain ⟨W1, hW1⟩ : ∃ W1, W1 = (w.alloc (.cells ROW 38)).drew := ⟨_, rfl⟩
  have hB1 : Bk W1 N 38 ROW := by rw [hW1, hN]; exact (Bk.new w 38 ROW).drew
  have hg1 : Bk W1 g 38 cur := by rw [hW1]; exact (hB.alloc _).drew
  have hv1 : Bk W1 vb 38 #[.int .i64 x.acct, .int .i64 x.id, .int .i64 x.instr, .int .i64 x.qty, .int .i64 x.price] := by rw [hW1]; exact (hv.alloc _).drew
  have hbl1 : Below base w W1 := by rw [hW1]; exact ((Below.refl _ w).alloc hbase _).drew
  have hxS : x.cells.length = 5 := rfl
  have m1 : Nat.min 1 (n + 1 - p) = 1 := Nat.min_eq_left (by omega)
  have m2 : Nat.min (n - p) (n - p) = n - p := Nat.min_self _
  obtain ⟨W2, hW2⟩ : ∃ W2, W2 = W1.setCells N (p * 5) x.cells := ⟨_, rfl⟩
  have hcp1 : ∀ ty, (Builtin.copy_ #[32, 32] ty #[.slice (some ⟨N, p * 5, none⟩) (n + 1 - p) (G - p), .slice (some ⟨vb, 0, none⟩) 1 1]).run Try.prog W1 = .ok (.int .i64 1) W2 := fun ty => by
    have h := run_copyS W1 ty N (p * 5) (n + 1 - p) (G - p) ⟨vb, 0, none⟩ 1 1 x.cells (by rw [hxS, m1])
      (fun j v hj => by rw [add0, Nat.zero_add, hv1.cell, ← Array.getElem?_toList]; exact hj) (fun j hj => by rw [hB1.cell, Array.getElem?_eq_getElem (by rw [hRs]; omega)]; rfl) (fun j _ => hB1.frozen _) (cells_one x)
    rw [← hW2, m1] at h
    exact h
  have hB2 : Bk W2 N 38 (ow ROW (p * 5) x.cells) := by rw [hW2]; exact Bk.cells _ _ hB1
  have hs2 : (ow ROW (p * 5) x.cells).size = G * 5 := by rw [ow_size]; exact hRs
  have hg2 : Bk W2 g 38 cur := by
    rw [hW2]
    exact (Below.cells (B := N) (Nat.le_refl _) x.cells (p * 5) (Below.refl N W1)).block g hbN |>.trans hg1
  have hbl2 : Below base w W2 := by rw [hW2]; exact Below.cells (by rw [hN]; exact hbase) _ _ hbl1
  have hrest : ∀ j v, (lcs (l.drop p))[j]? = some v → W2.cell? ⟨g, p * 5 + j, none⟩ = some v := fun j v hj => by
    rw [← lcs_drop, List.getElem?_drop] at hj
    rw [hg2.cell, ← hB.cell]
    exact hrd _ v hj
  have hdl : (lcs (l.drop p)).length = (n - p) * 5 := by rw [lcs_len, List.length_drop, hl]
  have hcp2 : ∀ ty, (Builtin.copy_ #[32, 32] ty #[.slice (some ⟨N, (p + 1) * 5, none⟩) (n - p) (G - (p + 1)), .slice (some ⟨g, p * 5, none⟩) (n - p) (n - p)]).run Try.prog W2.drew = .ok (.int .i64 ((n - p : Nat) : Int)) (W2.drew.setCells N ((p + 1) * 5) (lcs (l.drop p))) := fun ty => by
    have h := run_copyS W2.drew ty N ((p + 1) * 5) (n - p) (G - (p + 1)) ⟨g, p * 5, none⟩ (n - p) (n - p) (lcs (l.drop p)) (by rw [hdl, m2])
      (fun j v hj => by rw [add0]; exact hrest j v hj) (fun j hj => by rw [hB2.drew.cell, Array.getElem?_eq_getElem (by rw [hs2]; omega)]; rfl) (fun j _ => hB2.drew.frozen _) (lcs_one _)
    rw [m2] at h
    exact h
  have hfl : (l.take p ++ x :: l.drop p).length = n + 1 := by rw [List.length_append, List.length_cons, List.length_take, List.length_drop, hl]; omega
  have fin : (W2.drew.setCells N ((p + 1) * 5) (lcs (l.drop p))).ownsRow base 38 5 (.slice (some ⟨N, 0, none⟩) (n + 1) G) (n + 1) (lcs (l.take p ++ x :: l.drop p)) := by
    refine own_shut (by rw [hN]; exact hbase) (Bk.cells _ _ hB2.drew) hGn hG63 (by rw [ow_size]; exact hs2) hfl ?_
    have e1 : lcs (l.take p ++ x :: l.drop p) = (lcs (l.take p) ++ x.cells) ++ lcs (l.drop p) := by rw [lcs_append]; show _ = _; rw [List.append_assoc]; rfl
    have e2 : (ow ROW (p * 5) x.cells).toList.take ((p + 1) * 5) = lcs (l.take p) ++ x.cells := by
      rw [ow_list _ _ _ (by rw [hRs, hxS]; omega), hRt, ← List.append_assoc, List.take_append_of_le_length (by rw [List.length_append, lcs_len, List.length_take, hl, hxS]; omega), List.take_of_length_le (by rw [List.length_append, lcs_len, List.length_take, hl, hxS]; omega)]
    rw [ow_list _ _ _ (by rw [hs2, hdl]; omega), e2, e1, ← List.append_assoc, List.take_append_of_le_length (by simp only [List.length_append, lcs_len, List.length_take, List.length_drop, hl, hxS]; omega),
      List.take_of_length_le (by simp only [List.length_append, lcs_len, List.length_take, List.length_drop, hl, hxS]; omega)]
  have FIN := Lib.hid fin
  have HBL : Hid (Below base w (W2.drew.setCells N ((p + 1) * 5) (lcs (l.drop p)))) := Below.cells (by rw [hN]; exact hbase) _ _ hbl2.drew
  have HFL := Lib.hid hfl
  have HW1 := Lib.hid hW1
  have HW2 := Lib.hid hW2
  clear m1 m2 add0 hN fin hfl hdl hrest hbl2 hg2 hs2 hB2 hxS hbl1 hv1 hg1 hB1 hW1 hW2 hRt hRs hROW hG hold hrd hcl ht hl hsz hB hv
  unfold maxLen at hG63
  have j1 : (0 : Int) ≤ (p : Int) := by omega
  have j2 : (p : Int) ≤ (n : Int) := by omega
  have j3 : ¬ ((p : Int) = (n : Int)) := by omega
  have j4 : (n : Int) < (n : Int) + 1 := by omega
  have j5 : IntKind.i64.wrap ((n : Int) + 1) = (n : Int) + 1 := IntWalk.i64_in _ (by omega)
  have j6 : IntKind.i64.wrap ((n : Int) + 1 - (p : Int)) = (n : Int) + 1 - (p : Int) := IntWalk.i64_in _ (by omega)
  have j7 : IntKind.i64.wrap ((p : Int) + 1) = (p : Int) + 1 := IntWalk.i64_in _ (by omega)
  have j8 : ((p : Int) + 1).toNat = p + 1 := by omega
  have j9 : (0 : Int) ≤ (p : Int) + 1 := by omega
  have j10 : (p : Int) ≤ (n : Int) + 1 := by omega
  have j11 : ¬ (G = p) := by omega
  have j12 : ¬ (G = p + 1) := by omega
  have j13 : ¬ (n = p) := by omega
  have j14 : (p : Int) + 1 ≤ (n : Int) + 1 := by omega
  go_enter Try.func42, Try.ntmps42
  go_upto_region 10 with (at_builtin; refine Lib.wpList_append_run _ rfl _ _ _ _ rfl _ _ rfl rfl _ _ (hrz _) ?_)
  rw [← HW1.out]
  clear HW1 hrz
  go_upto_region 11 with (at_builtin; refine wpList_copy_run _ rfl _ _ 32 32 rfl _ _ rfl rfl (hcp1 _) ?_)
  go_region_law (refine step_copy_run rfl (.tmp 50) (.tmp 53) 32 32 rfl (.slice (some ⟨N, (p + 1) * 5, none⟩) (n - p) (G - (p + 1))) (.slice (some ⟨g, p * 5, none⟩) (n - p) (n - p)) (by simp [Act.eval, Act.put]) (by simp [Act.eval, Act.put]) (hcp2 _) ?_)
  all_goals
    go_wp2
    go_ret
    exact ⟨some ⟨N, 0, none⟩, G, by rw [HFL.out]; rfl, by rw [HFL.out]; exact hGn, by unfold maxLen; omega, by rw [HFL.out]; exact FIN.out, HBL.out⟩

end Go.Proofs.Ytiapbgbbeakoiaa.O
