/- Frames: Clone and Delete of []Frame. By gen_base.py. -/
import Derived.Test.YtnbndhmdfheikaaB
namespace Go.Proofs.Ytnbndhmdfheikaa
open Go.RowKit

instance : Inhabited Fr := ⟨⟨0, 0, 0, noBytes⟩⟩
theorem fcells_one (x : Fr) : ∀ u ∈ x.cells, u.oneCell' = true := by
  intro u hu
  simp [Fr.cells] at hu
  rcases hu with rfl | rfl | rfl | rfl <;> rfl
theorem frs_one (l : List Fr) : ∀ u ∈ frs l, u.oneCell' = true := by
  intro u hu
  obtain ⟨x, _, hx⟩ := List.mem_flatMap.1 hu
  exact fcells_one x u hx
/-- What a copy leaves. -/
theorem cloneL_any (A : Option Addr) (n c : Nat) (xs : List Value) (w : World) (h1c : ∀ u ∈ xs, u.oneCell' = true) (hn : n * 40 ≤ 140737488355328) (hr : Rd w w.heap.size 4 A n xs) :
    Calls Try.prog 29 #[.slice A n c] w fun r w' => ∃ A' c', r = .returned (.slice A' n c') ∧ n ≤ c' ∧ c' ≤ maxLen ∧ w'.ownsRow w.heap.size 44 4 (.slice A' n c') n xs ∧ Below w.heap.size w w' := by
  have hk := fun W => Lib.run_eql_slice_nil (P := Try.prog) W 38 44 A n c 0 0 Try.underlying38
  obtain ⟨i0, hi, hz0, hz1, hz2⟩ := info_parts info44
  rcases A with _ | a
  · have h0 : n = 0 := by
      rcases Nat.eq_zero_or_pos n with h0 | h0
      · exact h0
      · obtain ⟨_, h, _⟩ := hr.2 h0
        cases h
    subst h0
    have hs : xs = [] := List.eq_nil_of_length_eq_zero (by simpa using hr.1)
    subst hs
    go_enter Try.func29, Try.ntmps29
    go_wp2
    go_ret
    exact ⟨none, 0, rfl, Nat.le_refl _, Nat.zero_le _, World.ownsRow_nil _ _ _ _, Below.refl _ _⟩
  · have hown : (w.alloc (.cells #[] 44)).ownsRow w.heap.size 44 4 (.slice (some ⟨w.heap.size, 0, none⟩) 0 0) 0 [] := ⟨by simp, .inr ⟨w.heap.size, 0, #[], rfl, Nat.le_refl _, Bk.new _ _ _, Nat.le_refl _, Nat.zero_le _, by simp, by simp⟩⟩
    have hr1 : Rd (w.alloc (.cells #[] 44)) w.heap.size 4 (some a) n xs := hr.alloc (Nat.le_refl _) _
    go_enter Try.func29, Try.ntmps29
    go_wp2_with (at_builtin; go_must (refine wpList_append_rd _ rfl (.tmp 5) (.tmp 6) _ rfl w.heap.size 44 i0 _ 4 40 Try.underlying38 hi hz0 hz1 hz2 rfl (by omega) _ 0 [] rfl hown w.heap.size (some a) n c _ rfl hr1 h1c (by simp only [maxLen]; omega) (by omega) (by simp) ?_); intro A1 c1 w1 h1 h2 hown1 hg1 hat1)
    go_ret
    refine ⟨A1, c1, by simp, by omega, h2, by simpa using hown1, ((Below.refl w.heap.size w).alloc (Nat.le_refl _) _).grown hg1 (by simp) ?_⟩
    intro k hk'
    exact Nat.le_of_eq (Option.some.inj hk')

/-- A row of the call's own, opened. -/
theorem own_open {w : World} {base n c : Nat} {a : Addr} {xs : List Value} (h : w.ownsRow base 44 4 (.slice (some a) n c) n xs) : ∃ g cur, a = ⟨g, 0, none⟩ ∧ base ≤ g ∧ Bk w g 44 cur ∧ n ≤ c ∧ c ≤ maxLen ∧ cur.size = c * 4 ∧ cur.toList.take (n * 4) = xs := by
  rcases h.2 with ⟨hv, _⟩ | ⟨g, cap, cur, hv, hb, hh, h1, h2, h3, h4⟩
  · cases hv
  · injection hv with a1 a2 a3
    injection a1 with a1
    subst a1 a3
    exact ⟨g, cur, rfl, hb, hh, h1, h2, h3, h4⟩
theorem own_shut {w : World} {base n c g : Nat} {cur : Array Value} {l : List Fr} (hb : base ≤ g) (hh : Bk w g 44 cur) (h1 : n ≤ c) (h2 : c ≤ maxLen) (h3 : cur.size = c * 4) (hl : l.length = n) (h4 : cur.toList.take (n * 4) = frs l) : w.ownsRow base 44 4 (.slice (some ⟨g, 0, none⟩) n c) n (frs l) :=
  ⟨by rw [frs_len, hl], .inr ⟨g, c, cur, rfl, hb, hh, h1, h2, h3, h4⟩⟩
theorem frs_take (l : List Fr) (p : Nat) : (frs l).take (p * 4) = frs (l.take p) := by
  induction l generalizing p with
  | nil => simp [frs]
  | cons a l ih =>
    have e : frs (a :: l) = a.cells ++ frs l := rfl
    cases p with
    | zero => simp [frs]
    | succ p =>
      have e2 : frs ((a :: l).take (p + 1)) = a.cells ++ frs (l.take p) := rfl
      rw [e, e2, ← ih p, List.take_append]
      have hc : a.cells.length = 4 := rfl
      rw [List.take_of_length_le (by omega), hc]
      congr 2
      omega
theorem frs_drop (l : List Fr) (p : Nat) : (frs l).drop (p * 4) = frs (l.drop p) := by
  have h1 := frs_take l p
  have h2 : frs l = frs (l.take p) ++ frs (l.drop p) := by rw [← frs_append, List.take_append_drop]
  have h3 : (frs l).take (p * 4) ++ (frs l).drop (p * 4) = frs (l.take p) ++ frs (l.drop p) := by rw [List.take_append_drop, ← h2]
  rw [h1] at h3
  exact List.append_cancel_left h3

def zeroS : List Value := [.int .i64 0, .int .i64 0, .int .i64 0, .string ⟨#[]⟩]
theorem run_clear_one (w : World) (g o c : Nat) (hc : ∀ j, j < 4 → (w.cell? ⟨g, o + j, none⟩).isSome = true) (hf : ∀ j, j < 4 → w.frozen? ⟨g, o + j, none⟩ = false) (ty : TypeId) :
    (Builtin.clear_ #[38] ty #[.slice (some ⟨g, o, none⟩) 1 c]).run Try.prog w = .ok (.tuple #[]) (w.setCells g o zeroS) := by
  have hv := Try.zeroValue44
  have hst := run_storeCells_cells (P := Try.prog) g o zeroS 0 w (by simpa [zeroS] using hc) (by simpa [zeroS] using hf) (by intro v hv'; simp [zeroS] at hv'; rcases hv' with rfl | rfl <;> rfl)
  simp only [Nat.add_zero] at hst
  have hz : (Builtin.zeroCells (Value.agg #[.int .i64 0, .int .i64 0, .int .i64 0, .string ⟨#[]⟩]).cells 1).toList = zeroS := by kernel_rfl
  simp [Builtin.clear_, run_underlying Try.underlying38, hv, hz, hst]

theorem cells_far {b g : Nat} (hne : b ≠ g) (vs : List Value) : ∀ (w : World) (o : Nat), (w.setCells g o vs).heap[b]? = w.heap[b]? := by
  induction vs with
  | nil => exact fun _ _ => rfl
  | cons v r ih => exact fun w o => by rw [World.setCells]; exact (ih _ _).trans (Below.heap_setCell w ⟨g, o, none⟩ v b hne)

set_option maxHeartbeats 2000000 in
/-- Delete of one. -/
theorem delete_any (base g m c p : Nat) (l : List Fr) (cur : Array Value) (w : World) (hb : base ≤ g) (hB : Bk w g 44 cur) (hnc : m + 1 ≤ c) (hcm : c ≤ maxLen) (hsz : cur.size = c * 4) (hl : l.length = m + 1) (ht : cur.toList.take ((m + 1) * 4) = frs l) (hp : p < m + 1) :
    Calls Try.prog 30 #[.slice (some ⟨g, 0, none⟩) (m + 1) c, .int .i64 (p : Int), .int .i64 ((p : Int) + 1)] w fun e w' => e = .returned (.slice (some ⟨g, 0, none⟩) m c) ∧ w'.ownsRow base 44 4 (.slice (some ⟨g, 0, none⟩) m c) m (frs (l.take p ++ l.drop (p + 1))) ∧ Below base w w' ∧ ∀ b, b ≠ g → w'.heap[b]? = w.heap[b]? := by
  unfold maxLen at hcm
  obtain ⟨news, hnews⟩ : ∃ news, news = frs (l.drop (p + 1)) := ⟨_, rfl⟩
  have hlen : news.length = (m - p) * 4 := by rw [hnews, frs_len, List.length_drop, hl]; congr 1; omega
  have hcell : ∀ k, k < c * 4 → ∃ u, w.cell? ⟨g, k, none⟩ = some u := fun k hk => ⟨cur[k]'(by omega), by rw [hB.cell]; simp [hsz, hk]⟩
  have hread : ∀ t u, news[t]? = some u → w.cell? ⟨g, (p + 1) * 4 + t, none⟩ = some u := by
    intro t u hu
    have htl : t < news.length := (List.getElem?_eq_some_iff.1 hu).1
    rw [hB.cell, ← Array.getElem?_toList]
    have e : (cur.toList.take ((m + 1) * 4))[(p + 1) * 4 + t]? = some u := by
      rw [ht, ← List.getElem?_drop, frs_drop, ← hnews]
      exact hu
    rwa [List.getElem?_take_of_lt (by omega)] at e
  obtain ⟨A9, hA9, hsrc⟩ : ∃ A9 : Addr, (if c = p + 1 then some (⟨g, 0, none⟩ : Addr) else some ⟨g, (p + 1) * 4, none⟩) = some A9 ∧ Hid (∀ t u, news[t]? = some u → w.drew.cell? (A9.add t) = some u) := by
    by_cases h : c = p + 1
    · refine ⟨⟨g, 0, none⟩, by rw [if_pos h], fun t u hu => ?_⟩
      have h0 : news.length = 0 := by rw [hlen]; omega
      rw [List.length_eq_zero_iff.1 h0] at hu
      simp at hu
    · refine ⟨⟨g, (p + 1) * 4, none⟩, by rw [if_neg h], fun t u hu => ?_⟩
      have e : (⟨g, (p + 1) * 4, none⟩ : Addr).add t = ⟨g, (p + 1) * 4 + t, none⟩ := by
        unfold Addr.add
        split
        · simp_all
        · rfl
      rw [e]
      exact hread t u hu
  have s2 : Hid (∀ u ∈ news, u.oneCell' = true) := by rw [hnews]; exact frs_one _
  have s1 : Hid (news.length = (m - p) * 4) := hlen
  have s3 : Hid (∀ t, t < news.length → (w.drew.cell? ⟨g, 0 + p * 4 + t, none⟩).isSome = true ∧ w.drew.frozen? ⟨g, 0 + p * 4 + t, none⟩ = false) := by
    intro t htl
    obtain ⟨u, hu⟩ := hcell (0 + p * 4 + t) (by omega)
    exact ⟨by show (w.cell? _).isSome = true; rw [hu]; rfl, hB.frozen _⟩
  obtain ⟨i0, hi0, hz0, hz1, hz2⟩ := info_parts info44
  obtain ⟨W1, hW1⟩ : ∃ W1, W1 = w.drew.setCells g (0 + p * 4) news := ⟨_, rfl⟩
  have hB1 : Bk W1 g 44 (ow cur (0 + p * 4) news) := by rw [hW1]; exact Bk.cells news _ hB.drew
  have hs1 : (ow cur (0 + p * 4) news).size = c * 4 := by rw [ow_size]; exact hsz
  have hbel : Below base w W1 := by rw [hW1]; exact Below.cells hb news _ (Below.refl _ _).drew
  have hcl : ∀ ty, (Builtin.clear_ #[38] ty #[.slice (some ⟨g, m * 4, none⟩) 1 (c - m)]).run Try.prog W1 = .ok (.tuple #[]) (W1.setCells g (m * 4) zeroS) := fun ty =>
    run_clear_one W1 g _ _ (fun j hj => by rw [hB1.cell, Array.getElem?_eq_getElem (by rw [hs1]; omega)]; rfl) (fun j hj => hB1.frozen _) ty
  have fin : (W1.setCells g (m * 4) zeroS).ownsRow base 44 4 (.slice (some ⟨g, 0, none⟩) m c) m (frs (l.take p ++ l.drop (p + 1))) := by
    refine own_shut hb (Bk.cells zeroS _ hB1) (by omega) (by unfold maxLen; omega) (by rw [ow_size]; exact hs1) (by rw [List.length_append, List.length_take, List.length_drop]; omega) ?_
    rw [ow_list _ _ _ (by rw [hs1]; simp [zeroS]; omega), List.take_append_of_le_length (by rw [List.length_take, Array.length_toList, hs1]; omega), List.take_take, Nat.min_self,
      ow_list _ _ _ (by rw [hsz, hlen]; omega), ← List.append_assoc, List.take_append_of_le_length (by rw [List.length_append, List.length_take, Array.length_toList, hsz, hlen]; omega),
      List.take_of_length_le (by rw [List.length_append, List.length_take, Array.length_toList, hsz, hlen]; omega), frs_append, ← hnews]
    congr 1
    rw [Nat.zero_add, ← frs_take, ← ht, List.take_take, Nat.min_eq_left (by omega)]
  have FIN := Lib.hid fin
  have HBEL : Hid (Below base w (W1.setCells g (m * 4) zeroS)) := Below.cells hb zeroS _ hbel
  have HFAR : Hid (∀ b, b ≠ g → (W1.setCells g (m * 4) zeroS).heap[b]? = w.heap[b]?) := fun b hb => (cells_far hb _ _ _).trans (by rw [hW1]; exact cells_far hb _ _ _)
  have X : Hid (W1 = w.drew.setCells g (0 + p * 4) news) := hW1
  clear fin hbel hB1 hs1 hW1 hread hcell hlen hnews ht hl hsz hB
  have k1 : p + (m - p) = m := by omega
  have j10 : (m : Int) ≤ (c : Int) := by omega
  have j11 : (0 : Int) ≤ (m : Int) := by omega
  have j12 : (m : Int) ≤ (m : Int) + 1 := by omega
  have j13 : ((m : Int) + 1).toNat = m + 1 := by omega
  have j14 : ¬ (c = m) := by omega
  have j1 : (0 : Int) ≤ (p : Int) := by omega
  have j2 : (p : Int) ≤ (p : Int) + 1 := by omega
  have j3 : (p : Int) + 1 ≤ ((m : Int) + 1) := by omega
  have j4 : ((m : Int) + 1) ≤ (c : Int) := by omega
  have j5 : ((p : Int) + 1).toNat = p + 1 := by omega
  have j6 : ¬ ((p : Int) = (p : Int) + 1) := by omega
  have j7 : (p : Int) ≤ (c : Int) := by omega
  have j8 : (p : Int) + 1 ≤ (c : Int) := by omega
  have j9 : (0 : Int) ≤ (p : Int) + 1 := by omega
  go_enter Try.func30, Try.ntmps30
  go_wp2_with fail
  go_region_law (refine step_append_room rfl (.tmp 22) (.tmp 25) 38 rfl 44 i0 4 Try.underlying38 hi0 hz1 g 0 p c (by simp [Act.eval, Act.put]) A9 (m - p) (c - (p + 1)) news (by simp [Act.eval, Act.put]) s1.out hsrc.out s2.out (by omega) s3.out ?_; rw [← X.out])
  all_goals
    go_wp2
    go_ret
    exact ⟨rfl, FIN.out, HBEL.out, HFAR.out⟩

end Go.Proofs.Ytnbndhmdfheikaa
