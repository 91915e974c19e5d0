/- Walks: Supply. -/
import Derived.Test.YtboehkcpgmpjjaaC2
namespace Go.Proofs.Ytboehkcpgmpjjaa
open Go.RowKit

/-- What Supply leaves. -/
def SupOut (w : World) (r : List Int × Int) (e : Ending) (w' : World) : Prop :=
  ∃ A c, e = .returned (.tuple #[.slice A r.1.length c, .int .i64 r.2]) ∧ r.1.length ≤ c ∧ c ≤ maxLen ∧ w'.ownsRow w.heap.size 3 1 (.slice A r.1.length c) r.1.length (ints r.1) ∧ Below w.heap.size w w'
theorem sup_bad (w : World) (er : Int) : SupOut w ([], er) (.returned (.tuple #[.slice none 0 0, .int .i64 er])) w :=
  ⟨none, 0, rfl, Nat.le_refl _, Nat.zero_le _, World.ownsRow_nil _ _ _ _, Below.refl _ _⟩

set_option maxHeartbeats 1000000 in
theorem supply_any (A : Option Addr) (n c : Nat) (av : List Int) (i q : Int) (w : World) (hav : av.all fitsQ = true) (hn : n * 8 ≤ 140737488355328) (hr : Rd w w.heap.size 1 A n (ints av)) :
    Calls Try.prog 10 #[.slice A n c, .int .i64 i, .int .i64 q] w (SupOut w (supplyS av i q)) := by
  have hl : av.length = n := by have := hr.1; rw [ints_len] at this; omega
  subst hl
  by_cases hi : i < 0 ∨ (av.length : Int) ≤ i
  · have e : supplyS av i q = ([], 32) := by unfold supplyS; rw [if_pos hi]
    rw [e]
    clear e
    by_cases h0 : i < 0
    · go_enter Try.func10, Try.ntmps10
      go_wp2
      refine bodyPost_ret (results_tmp2 rfl _ _ _) rfl ?_
      exact sup_bad w 32
    · have h1 : (av.length : Int) ≤ i := by omega
      have h2 : ¬ (i < (av.length : Int)) := by omega
      go_enter Try.func10, Try.ntmps10
      go_wp2
      refine bodyPost_ret (results_tmp2 rfl _ _ _) rfl ?_
      exact sup_bad w 32
  obtain ⟨k, rfl⟩ : ∃ k : Nat, i = k := ⟨i.toNat, by omega⟩
  have hk : k < av.length := by omega
  obtain ⟨a, rfl, hb, c0⟩ := hr.int hk
  obtain ⟨hv0, hv1⟩ := all_at hav hk
  obtain ⟨v, hv⟩ : ∃ v, v = av[k] := ⟨_, rfl⟩
  rw [← hv] at c0 hv0 hv1
  have eg : av.getD k 0 = v := by rw [hv]; exact getD_lt hk
  have es : supplyS av k q = if q < -1000000000 ∨ 1000000000 < q ∨ v + q < 0 ∨ 1000000000 < v + q then ([], 36) else (av.set k (v + q), 0) := by
    unfold supplyS
    rw [if_neg hi, Int.toNat_natCast, eg]
  have i1 : (0 : Int) ≤ (k : Int) := by omega
  have i2 : (k : Int) < (av.length : Int) := by omega
  have i3 : ¬ ((k : Int) < 0) := by omega
  have i4 : ¬ ((av.length : Int) ≤ (k : Int)) := by omega
  by_cases hq0 : q < -1000000000
  · rw [es, if_pos (.inl hq0)]
    clear es eg hv
    go_enter Try.func10, Try.ntmps10
    go_wp2
    refine bodyPost_ret (results_tmp2 rfl _ _ _) rfl ?_
    exact sup_bad w 36
  by_cases hq1 : 1000000000 < q
  · rw [es, if_pos (.inr (.inl hq1))]
    clear es eg hv
    go_enter Try.func10, Try.ntmps10
    go_wp2
    refine bodyPost_ret (results_tmp2 rfl _ _ _) rfl ?_
    exact sup_bad w 36
  have iw : IntKind.i64.wrap (v + q) = v + q := IntWalk.i64_in _ (by omega)
  have hq2 : ¬ (q > 1000000000) := by omega
  by_cases hs0 : v + q < 0
  · rw [es, if_pos (.inr (.inr (.inl hs0)))]
    clear es eg hv
    go_enter Try.func10, Try.ntmps10
    go_wp2
    refine bodyPost_ret (results_tmp2 rfl _ _ _) rfl ?_
    exact sup_bad w 36
  by_cases hs1 : 1000000000 < v + q
  · rw [es, if_pos (.inr (.inr (.inr hs1)))]
    clear es eg hv
    go_enter Try.func10, Try.ntmps10
    go_wp2
    refine bodyPost_ret (results_tmp2 rfl _ _ _) rfl ?_
    exact sup_bad w 36
  rw [es, if_neg (by omega)]
  have HR := Lib.hid hr
  have HV := Lib.hid hv
  clear es eg hr hv
  go_enter Try.func10, Try.ntmps10
  go_wp2_with fail
  refine (cloneI_any (some a) av.length c (ints av) w (ints_one av) hn HR.out).mono ?_
  rintro e w1 ⟨A1, c1, rfl, hc1, hm1, hown, hb1⟩
  obtain ⟨a1, rfl, hab, d0⟩ := (Rd.of_own hown).int hk
  rw [← HV.out] at d0
  have z0 : w1.frozen? (a1.add k) = false := by
    rcases hown.2 with ⟨hx, _⟩ | ⟨g, cap, cur, hx, _, hh, _⟩
    · cases hx
    · injection hx with hx
      injection hx with hx
      subst hx
      have hB : Bk w1 g 3 cur := hh
      unfold Addr.add
      split
      · exact hB.frozen 0
      · exact hB.frozen _
  have HO := Lib.hid hown
  have HB1 := Lib.hid hb1
  clear hown hb1 c0
  go_wp2
  refine bodyPost_ret (results_tmp2 rfl _ _ _) rfl ?_
  have hp := own_put HO.out k (.int .i64 (v + q))
  rw [ints_set] at hp
  refine ⟨some a1, c1, by simp, by simpa using hc1, hm1, by simpa using hp, Below.setCell HB1.out (by rw [add_block]; exact (HO.out.lt _ rfl).1) _⟩

set_option maxHeartbeats 1000000 in
theorem rsupply_any (A : Option Addr) (n c : Nat) (av : List Int) (i q : Int) (w : World) (hav : av.all fitsQ = true) (hn : n * 8 ≤ 140737488355328) (hr : Rd w w.heap.size 1 A n (ints av)) :
    Calls Try.prog 11 #[.slice A n c, .int .i64 i, .int .i64 q] w (SupOut w (supplyS av i q)) := by
  have hl : av.length = n := by have := hr.1; rw [ints_len] at this; omega
  subst hl
  by_cases hi : i < 0 ∨ (av.length : Int) ≤ i
  · have e : supplyS av i q = ([], 32) := by unfold supplyS; rw [if_pos hi]
    rw [e]
    clear e
    by_cases h0 : i < 0
    · go_enter Try.func11, Try.ntmps11
      go_wp2
      refine bodyPost_ret (results_tmp2 rfl _ _ _) rfl ?_
      exact sup_bad w 32
    · have h1 : (av.length : Int) ≤ i := by omega
      have h2 : ¬ (i < (av.length : Int)) := by omega
      go_enter Try.func11, Try.ntmps11
      go_wp2
      refine bodyPost_ret (results_tmp2 rfl _ _ _) rfl ?_
      exact sup_bad w 32
  obtain ⟨k, rfl⟩ : ∃ k : Nat, i = k := ⟨i.toNat, by omega⟩
  have hk : k < av.length := by omega
  obtain ⟨a, rfl, hb, c0⟩ := hr.int hk
  obtain ⟨hv0, hv1⟩ := all_at hav hk
  obtain ⟨v, hv⟩ : ∃ v, v = av[k] := ⟨_, rfl⟩
  rw [← hv] at c0 hv0 hv1
  have eg : av.getD k 0 = v := by rw [hv]; exact getD_lt hk
  have es : supplyS av k q = if q < -1000000000 ∨ 1000000000 < q ∨ v + q < 0 ∨ 1000000000 < v + q then ([], 36) else (av.set k (v + q), 0) := by
    unfold supplyS
    rw [if_neg hi, Int.toNat_natCast, eg]
  have i1 : (0 : Int) ≤ (k : Int) := by omega
  have i2 : (k : Int) < (av.length : Int) := by omega
  have i3 : ¬ ((k : Int) < 0) := by omega
  have i4 : ¬ ((av.length : Int) ≤ (k : Int)) := by omega
  by_cases hq : boundQ q = true
  case neg =>
    have hq' : boundQ q = false := by simpa using hq
    rw [es, if_pos (by simp [boundQ] at hq; omega)]
    clear es eg hv hq
    go_enter Try.func11, Try.ntmps11
    go_wp2_with fail
    refine (bound_any q w).mono ?_
    rw [hq']
    rintro e w' ⟨rfl, rfl⟩
    go_wp2
    refine bodyPost_ret (results_tmp2 rfl _ _ _) rfl ?_
    exact sup_bad _ 36
  have hq1 : -1000000000 ≤ q ∧ q ≤ 1000000000 := by simpa [boundQ] using hq
  have iw : IntKind.i64.wrap (v + q) = v + q := IntWalk.i64_in _ (by omega)
  by_cases hs : fitsQ (v + q) = true
  case neg =>
    have hs' : fitsQ (v + q) = false := by simpa using hs
    rw [es, if_pos (by simp [fitsQ] at hs; omega)]
    clear es eg hv hs
    go_enter Try.func11, Try.ntmps11
    go_wp2_with fail
    refine (bound_any q w).mono ?_
    rw [hq]
    rintro e w' ⟨rfl, rfl⟩
    go_wp2_with fail
    refine (fits_any (v + q) _).mono ?_
    rw [hs']
    rintro e w' ⟨rfl, rfl⟩
    go_wp2
    refine bodyPost_ret (results_tmp2 rfl _ _ _) rfl ?_
    exact sup_bad _ 36
  have hs1 : 0 ≤ v + q ∧ v + q ≤ 1000000000 := by simpa [fitsQ] using hs
  rw [es, if_neg (by omega)]
  have hown : (w.alloc (.cells #[] 3)).ownsRow w.heap.size 3 1 (.slice (some ⟨w.heap.size, 0, none⟩) 0 0) 0 [] := ⟨by simp, .inr ⟨w.heap.size, 0, #[], rfl, Nat.le_refl _, Bk.new _ _ _, Nat.le_refl _, Nat.zero_le _, by simp, by simp⟩⟩
  have hr1 : Rd (w.alloc (.cells #[] 3)) w.heap.size 1 (some a) av.length (ints av) := hr.alloc (Nat.le_refl _) _
  obtain ⟨i0, hinf, hz0, hz1, hz2⟩ := info_parts info3
  have HV := Lib.hid hv
  clear es eg hr hv
  go_enter Try.func11, Try.ntmps11
  go_wp2_with fail
  refine (bound_any q w).mono ?_
  rw [hq]
  rintro e w' ⟨rfl, rfl⟩
  go_wp2_with fail
  refine (fits_any (v + q) _).mono ?_
  rw [hs]
  rintro e w' ⟨rfl, rfl⟩
  rename World => w
  have ones := ints_one av
  go_upto_region 6 with (at_builtin; go_must (refine wpList_append_rd _ rfl (.tmp 30) (.tmp 31) _ rfl w.heap.size 3 i0 _ 1 8 Try.underlying22 hinf hz0 hz1 hz2 rfl (by omega) _ 0 [] rfl hown w.heap.size (some a) av.length c _ rfl hr1 ones (by simp only [maxLen]; omega) (by omega) (by simp) ?_); intro A1 c1 w1 h1 h2 hown1 hg1 hat1)
  simp only [Nat.zero_add, List.nil_append] at h1 hown1 ⊢
  obtain ⟨a1, rfl, hab, d0⟩ := (Rd.of_own hown1).int hk
  rw [← HV.out] at d0
  have z0 : w1.frozen? (a1.add k) = false := by
    rcases hown1.2 with ⟨hx, _⟩ | ⟨g, cap, cur, hx, _, hh, _⟩
    · cases hx
    · injection hx with hx
      injection hx with hx
      subst hx
      have hB : Bk w1 g 3 cur := hh
      unfold Addr.add
      split
      · exact hB.frozen 0
      · exact hB.frozen _
  have HO := Lib.hid hown1
  have HB1 : Hid (Below w.heap.size w w1) := ((Below.refl w.heap.size w).alloc (Nat.le_refl _) _).grown hg1 (by simp) (fun k hk' => Nat.le_of_eq (Option.some.inj hk'))
  clear hown1 hg1 hat1 c0 hr1 hown
  go_wp2
  refine bodyPost_ret (results_tmp2 rfl _ _ _) rfl ?_
  have hp := own_put HO.out k (.int .i64 (v + q))
  rw [ints_set] at hp
  refine ⟨some a1, c1, by simp, by simpa using h1, h2, by simpa using hp, Below.setCell HB1.out (by rw [add_block]; exact (HO.out.lt _ rfl).1) _⟩

end Go.Proofs.Ytboehkcpgmpjjaa
