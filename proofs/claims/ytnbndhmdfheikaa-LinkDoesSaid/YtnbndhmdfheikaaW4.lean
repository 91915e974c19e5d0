/- Walks: what makes memory: Clone, copied, data. -/
import Derived.Test.YtnbndhmdfheikaaW3
import Derived.Test.YtnbndhmdfheikaaMm
namespace Go.Proofs.Ytnbndhmdfheikaa
open Go.RowKit

theorem info9 : (Try.prog.info? 9).map (fun i => (i.zero, i.size, i.bytes)) = some (some (.string ⟨#[]⟩), 1, 16) := by kernel_rfl
theorem info44 : (Try.prog.info? 44).map (fun i => (i.zero, i.size, i.bytes)) = some (some (.agg #[.int .i64 0, .int .i64 0, .int .i64 0, .string ⟨#[]⟩]), 4, 40) := by kernel_rfl

theorem strs_one (ss : List ByteArray) : ∀ u ∈ ss.map Value.string, u.oneCell' = true := by
  intro u hu
  obtain ⟨_, _, rfl⟩ := List.mem_map.1 hu
  rfl

/-- What a copy of a []string leaves. -/
def OwnStrs (w : World) (n : Nat) (ss : List ByteArray) (e : Ending) (w' : World) : Prop :=
  ∃ A c, e = .returned (.slice A n c) ∧ n ≤ c ∧ c ≤ maxLen ∧ w'.ownsRow w.heap.size 9 1 (.slice A n c) n (ss.map Value.string) ∧ Below w.heap.size w w'

set_option maxHeartbeats 400000 in
theorem clone_any (A : Option Addr) (n c : Nat) (ss : List ByteArray) (w : World) (hn : n * 16 ≤ 140737488355328) (hr : Rd w w.heap.size 1 A n (ss.map Value.string)) :
    Calls Try.prog 26 #[.slice A n c] w (OwnStrs w n ss) := by
  have hk := fun W => Lib.run_eql_slice_nil (P := Try.prog) W 30 9 A n c 0 0 Try.underlying30
  obtain ⟨i0, hi, hz0, hz1, hz2⟩ := info_parts info9
  rcases A with _ | a
  · have h0 : n = 0 := by
      rcases Nat.eq_zero_or_pos n with h0 | h0
      · exact h0
      · obtain ⟨_, h, _⟩ := hr.2 h0
        cases h
    subst h0
    have hs : ss = [] := List.eq_nil_of_length_eq_zero (by simpa using hr.1)
    subst hs
    go_enter Try.func26, Try.ntmps26
    go_wp2
    go_ret
    exact ⟨none, 0, rfl, Nat.le_refl _, Nat.zero_le _, World.ownsRow_nil _ _ _ _, Below.refl _ _⟩
  · have hown : (w.alloc (.cells #[] 9)).ownsRow w.heap.size 9 1 (.slice (some ⟨w.heap.size, 0, none⟩) 0 0) 0 [] := World.ownsRow_made w #[] 0 (Nat.le_refl _) (Nat.zero_le _) (by simp)
    have hr1 : Rd (w.alloc (.cells #[] 9)) w.heap.size 1 (some a) n (ss.map Value.string) := hr.alloc (Nat.le_refl _) _
    go_enter Try.func26, Try.ntmps26
    go_wp2_with (at_builtin; go_must (refine wpList_append_rd _ rfl (.tmp 5) (.tmp 6) _ rfl w.heap.size 9 i0 _ 1 16 Try.underlying30 hi hz0 hz1 hz2 rfl (by omega) _ 0 [] rfl hown w.heap.size (some a) n c _ rfl hr1 (strs_one ss) (by simp only [maxLen]; omega) (by omega) (by simp) ?_); intro A1 c1 w1 h1 h2 hown1 hg1 hat1)
    go_ret
    refine ⟨A1, c1, by simp, by omega, h2, by simpa using hown1, ((Below.refl w.heap.size w).alloc (Nat.le_refl _) _).grown hg1 (by simp) ?_⟩
    intro k hk'
    exact Nat.le_of_eq (Option.some.inj hk')

/-- What a copy of an end leaves. -/
def OwnSide (w : World) (s : Sd) (e : Ending) (w' : World) : Prop :=
  ∃ A c, e = .returned (sideVal (.slice A s.sent.length c) s) ∧ s.sent.length ≤ c ∧ c ≤ maxLen ∧ w'.ownsRow w.heap.size 9 1 (.slice A s.sent.length c) s.sent.length (s.sent.map Value.string) ∧ Below w.heap.size w w'

set_option maxHeartbeats 400000 in
theorem copied_any (A : Option Addr) (n c : Nat) (s : Sd) (w : World) (hn : n * 16 ≤ 140737488355328) (hr : Rd w w.heap.size 1 A n (s.sent.map Value.string)) :
    Calls Try.prog 41 #[sideVal (.slice A n c) s] w (OwnSide w s) := by
  have hl : s.sent.length = n := by simpa using hr.1
  obtain ⟨ss, tk, kn⟩ := s
  dsimp only at hl hr
  subst hl
  have HR := (((hr.alloc (Nat.le_refl _) (.cells #[.slice A ss.length c, .int .i64 tk, .int .i64 kn] 33)).alloc (by simp) (.cells #[.slice none 0 0, .int .i64 0, .int .i64 0] 33)).mono (B' := w.heap.size + 1 + 1) (by omega))
  clear hr
  unfold sideVal
  go_enter Try.func41, Try.ntmps41
  go_wp2_with fail
  refine (clone_any A ss.length c ss _ hn (by simpa using HR)).mono ?_
  rintro e w1 ⟨A1, c1, rfl, hn1, hm1, hown, hb⟩
  have HO := Lib.hid hown
  have HB := Lib.hid hb
  clear hown hb
  obtain ⟨q0, q1, q2, z0, z1, z2, hg⟩ := (((Bk.new w 33 _).alloc _).below HB.out (by simp; omega)).three
  obtain ⟨r0, r1, r2, y0, y1, y2, hg'⟩ := ((Bk.new (w.alloc (.cells #[.slice A ss.length c, .int .i64 tk, .int .i64 kn] 33)) 33 _).below HB.out (by simp)).three
  simp only [World.size_alloc] at r0 r1 r2 y0 y1 y2 hg'
  go_wp2
  have H1 := HO.out
  have H2 := HB.out
  simp only [World.size_alloc] at H1 H2
  refine bodyPost_ret (v := sideVal (.slice A1 ss.length c1) ⟨ss, tk, kn⟩) (by simp [results, Try.results41, go_sem, sideVal, r0, r1, r2]) rfl ⟨A1, c1, rfl, hn1, hm1, ?_, ?_⟩
  · refine own_mono (base := w.heap.size + 1 + 1) ?_ (by omega)
    repeat (refine ownsRow_setCell_below ?_ (by first | (simp; done) | (simp; omega)) _)
    exact H1
  · repeat (refine Below.setCell ?_ (by simp) _)
    exact (((Below.refl _ w).alloc (Nat.le_refl _) _).alloc (by simp) _).trans (H2.mono (by omega))

end Go.Proofs.Ytnbndhmdfheikaa
