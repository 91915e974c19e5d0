/- Walks of Got, Under, End, Open, New. By gen_la.py. -/
import Derived.Test.YtnbndhmdfheikaaLC
namespace Go.Proofs.Ytnbndhmdfheikaa
open Go.RowKit

set_option maxHeartbeats 2000000 in
set_option maxRecDepth 100000 in
theorem got_0 (L lb : Nat) (st : Lk) (R : Nat → Option Addr) (C : Nat → Nat) (W : World) (hl : LinkAt L lb st R C W) (hg : (st.g 0).length ≤ 2199023255552) :
    Calls Try.prog 11 #[.pointer (some ⟨lb, 0, none⟩), .int .i64 0] W (OwnStrs W (st.g 0).length (st.g 0)) := by
  have hown : W.ownsRow L 9 1 (.slice (R 4) (st.g 0).length (C 4)) (st.g 0).length ((st.g 0).map Value.string) := by simpa [rowTy, rowSz, rowLn, rowXs] using hl.own 4 (by omega)
  have hcl := clone_any (R 4) (st.g 0).length (C 4) (st.g 0) W (by omega) (Rd.of_own hown)
  have HCL := Lib.hid hcl
  have q0 : W.cell? ⟨lb, 8, none⟩ = some (.slice (R 4) (st.g 0).length (C 4)) := by rw [hl.bk.cell]; simp [lkCells]
  have hlb := hl.bk.lt
  clear hl hown hcl
  go_enter Try.func11, Try.ntmps11
  go_wp2_with fail
  refine (end_any lb 0 W).mono ?_
  rintro e w' ⟨rfl, hw'⟩
  rw [hw']
  clear hw' w'
  rw [decide_eq_true (by omega)]
  go_wp2_with fail
  refine HCL.out.mono ?_
  rintro e w1 ⟨A1, c1, rfl, hn1, hm1, hown, hb⟩
  go_wp2
  go_ret
  exact ⟨A1, c1, rfl, hn1, hm1, hown, hb⟩

set_option maxHeartbeats 2000000 in
set_option maxRecDepth 100000 in
theorem got_1 (L lb : Nat) (st : Lk) (R : Nat → Option Addr) (C : Nat → Nat) (W : World) (hl : LinkAt L lb st R C W) (hg : (st.g 1).length ≤ 2199023255552) :
    Calls Try.prog 11 #[.pointer (some ⟨lb, 0, none⟩), .int .i64 1] W (OwnStrs W (st.g 1).length (st.g 1)) := by
  have hown : W.ownsRow L 9 1 (.slice (R 5) (st.g 1).length (C 5)) (st.g 1).length ((st.g 1).map Value.string) := by simpa [rowTy, rowSz, rowLn, rowXs] using hl.own 5 (by omega)
  have hcl := clone_any (R 5) (st.g 1).length (C 5) (st.g 1) W (by omega) (Rd.of_own hown)
  have HCL := Lib.hid hcl
  have q0 : W.cell? ⟨lb, 9, none⟩ = some (.slice (R 5) (st.g 1).length (C 5)) := by rw [hl.bk.cell]; simp [lkCells]
  have hlb := hl.bk.lt
  clear hl hown hcl
  go_enter Try.func11, Try.ntmps11
  go_wp2_with fail
  refine (end_any lb 1 W).mono ?_
  rintro e w' ⟨rfl, hw'⟩
  rw [hw']
  clear hw' w'
  rw [decide_eq_true (by omega)]
  go_wp2_with fail
  refine HCL.out.mono ?_
  rintro e w1 ⟨A1, c1, rfl, hn1, hm1, hown, hb⟩
  go_wp2
  go_ret
  exact ⟨A1, c1, rfl, hn1, hm1, hown, hb⟩

set_option maxHeartbeats 2000000 in
set_option maxRecDepth 100000 in
theorem under_0 (L lb : Nat) (st : Lk) (R : Nat → Option Addr) (C : Nat → Nat) (W : World) (hl : LinkAt L lb st R C W) (hu : (st.u 0).length ≤ 4096) :
    Calls Try.prog 15 #[.pointer (some ⟨lb, 0, none⟩), .int .i64 0] W (OwnFrs W (st.u 0)) := by
  have hown : W.ownsRow L 44 4 (.slice (R 2) (st.u 0).length (C 2)) (st.u 0).length (frs (st.u 0)) := by simpa [rowTy, rowSz, rowLn, rowXs] using hl.own 2 (by omega)
  have hcl := cloneL_any (R 2) (st.u 0).length (C 2) (frs (st.u 0)) W (frs_one _) (by omega) (Rd.of_own hown)
  have HCL := Lib.hid hcl
  have q0 : W.cell? ⟨lb, 6, none⟩ = some (.slice (R 2) (st.u 0).length (C 2)) := by rw [hl.bk.cell]; simp [lkCells]
  have hlb := hl.bk.lt
  clear hl hown hcl
  go_enter Try.func15, Try.ntmps15
  go_wp2_with fail
  refine (end_any lb 0 W).mono ?_
  rintro e w' ⟨rfl, hw'⟩
  rw [hw']
  clear hw' w'
  rw [decide_eq_true (by omega)]
  go_wp2_with fail
  refine HCL.out.mono ?_
  rintro e w1 ⟨A1, c1, rfl, hn1, hm1, hown, hb⟩
  go_wp2
  go_ret
  exact ⟨A1, c1, rfl, hn1, hm1, hown, hb⟩

set_option maxHeartbeats 4000000 in
set_option maxRecDepth 100000 in
theorem side_0 (L lb : Nat) (st : Lk) (R : Nat → Option Addr) (C : Nat → Nat) (W : World) (hl : LinkAt L lb st R C W) (hs : (st.e 0).sent.length * 16 ≤ 140737488355328) :
    Calls Try.prog 12 #[.pointer (some ⟨lb, 0, none⟩), .int .i64 0] W (OwnSide W (st.e 0)) := by
  have hown : W.ownsRow L 9 1 (.slice (R 0) (st.e 0).sent.length (C 0)) (st.e 0).sent.length ((st.e 0).sent.map Value.string) := by simpa [rowTy, rowSz, rowLn, rowXs] using hl.own 0 (by omega)
  have HR := (((Rd.of_own hown).alloc (Nat.le_refl _) (.cells #[.slice none 0 0, .int .i64 0, .int .i64 0] 33)).alloc (by simp) (.cells #[.slice (R 0) (st.e 0).sent.length (C 0), .int .i64 (st.e 0).taken, .int .i64 (st.e 0).known] 33)).mono (B' := W.heap.size + 1 + 1) (by omega)
  have hlb := hl.bk.lt
  have q0 : (W.alloc (.cells #[.slice none 0 0, .int .i64 0, .int .i64 0] 33)).cell? ⟨lb, 0, none⟩ = some (.slice (R 0) (st.e 0).sent.length (C 0)) := by rw [World.cell?_alloc_lt _ _ _ hlb, hl.bk.cell]; simp [lkCells]
  have q1 : (W.alloc (.cells #[.slice none 0 0, .int .i64 0, .int .i64 0] 33)).cell? ⟨lb, 1, none⟩ = some (.int .i64 (st.e 0).taken) := by rw [World.cell?_alloc_lt _ _ _ hlb, hl.bk.cell]; simp [lkCells]
  have q2 : (W.alloc (.cells #[.slice none 0 0, .int .i64 0, .int .i64 0] 33)).cell? ⟨lb, 2, none⟩ = some (.int .i64 (st.e 0).known) := by rw [World.cell?_alloc_lt _ _ _ hlb, hl.bk.cell]; simp [lkCells]
  have p0 : W.cell? ⟨lb, 0, none⟩ = some (.slice (R 0) (st.e 0).sent.length (C 0)) := by rw [hl.bk.cell]; simp [lkCells]
  have p1 : W.cell? ⟨lb, 1, none⟩ = some (.int .i64 (st.e 0).taken) := by rw [hl.bk.cell]; simp [lkCells]
  have p2 : W.cell? ⟨lb, 2, none⟩ = some (.int .i64 (st.e 0).known) := by rw [hl.bk.cell]; simp [lkCells]
  obtain ⟨⟨ss, tk, kn⟩, hse⟩ : ∃ s, s = st.e 0 := ⟨_, rfl⟩
  rw [← hse] at HR q0 q1 q2 p0 p1 p2 hs ⊢
  dsimp only at HR q0 q1 q2 p0 p1 p2 hs
  have HRD := Lib.hid HR
  clear hl hown hse HR
  go_enter Try.func12, Try.ntmps12
  go_wp2_with fail
  refine (end_any lb 0 _).mono ?_
  rintro e w' ⟨rfl, hw'⟩
  rw [hw']
  clear hw' w'
  rw [decide_eq_true (by omega)]
  go_wp2_with fail
  refine (clone_any (R 0) ss.length (C 0) ss _ hs (by simpa using HRD.out)).mono ?_
  rintro e w1 ⟨A1, c1, rfl, hn1, hm1, hown, hb⟩
  have HO := Lib.hid hown
  have HB := Lib.hid hb
  clear hown hb q0 q1 q2 p0 p1 p2
  obtain ⟨q0, q1, q2, z0, z1, z2, hg⟩ := (((Bk.new W 33 _).alloc _).below HB.out (by simp; omega)).three
  obtain ⟨r0, r1, r2, y0, y1, y2, hg'⟩ := ((Bk.new (W.alloc (.cells #[.slice none 0 0, .int .i64 0, .int .i64 0] 33)) 33 _).below HB.out (by simp)).three
  simp only [World.size_alloc] at r0 r1 r2 y0 y1 y2 hg'
  go_wp2
  have H1 := HO.out
  have H2 := HB.out
  simp only [World.size_alloc] at H1 H2
  refine bodyPost_ret (v := sideVal (.slice A1 ss.length c1) ⟨ss, tk, kn⟩) (by simp [results, Try.results12, go_sem, sideVal, q0, q1, q2]) rfl ⟨A1, c1, rfl, hn1, hm1, ?_, ?_⟩
  · refine own_mono (base := W.heap.size + 1 + 1) ?_ (by omega)
    repeat (refine ownsRow_setCell_below ?_ (by first | (simp; done) | (simp; omega)) _)
    exact H1
  · repeat (refine Below.setCell ?_ (by simp) _)
    exact (((Below.refl _ W).alloc (Nat.le_refl _) _).alloc (by simp) _).trans (H2.mono (by omega))

set_option maxHeartbeats 2000000 in
set_option maxRecDepth 100000 in
theorem under_1 (L lb : Nat) (st : Lk) (R : Nat → Option Addr) (C : Nat → Nat) (W : World) (hl : LinkAt L lb st R C W) (hu : (st.u 1).length ≤ 4096) :
    Calls Try.prog 15 #[.pointer (some ⟨lb, 0, none⟩), .int .i64 1] W (OwnFrs W (st.u 1)) := by
  have hown : W.ownsRow L 44 4 (.slice (R 3) (st.u 1).length (C 3)) (st.u 1).length (frs (st.u 1)) := by simpa [rowTy, rowSz, rowLn, rowXs] using hl.own 3 (by omega)
  have hcl := cloneL_any (R 3) (st.u 1).length (C 3) (frs (st.u 1)) W (frs_one _) (by omega) (Rd.of_own hown)
  have HCL := Lib.hid hcl
  have q0 : W.cell? ⟨lb, 7, none⟩ = some (.slice (R 3) (st.u 1).length (C 3)) := by rw [hl.bk.cell]; simp [lkCells]
  have hlb := hl.bk.lt
  clear hl hown hcl
  go_enter Try.func15, Try.ntmps15
  go_wp2_with fail
  refine (end_any lb 1 W).mono ?_
  rintro e w' ⟨rfl, hw'⟩
  rw [hw']
  clear hw' w'
  rw [decide_eq_true (by omega)]
  go_wp2_with fail
  refine HCL.out.mono ?_
  rintro e w1 ⟨A1, c1, rfl, hn1, hm1, hown, hb⟩
  go_wp2
  go_ret
  exact ⟨A1, c1, rfl, hn1, hm1, hown, hb⟩

set_option maxHeartbeats 4000000 in
set_option maxRecDepth 100000 in
theorem side_1 (L lb : Nat) (st : Lk) (R : Nat → Option Addr) (C : Nat → Nat) (W : World) (hl : LinkAt L lb st R C W) (hs : (st.e 1).sent.length * 16 ≤ 140737488355328) :
    Calls Try.prog 12 #[.pointer (some ⟨lb, 0, none⟩), .int .i64 1] W (OwnSide W (st.e 1)) := by
  have hown : W.ownsRow L 9 1 (.slice (R 1) (st.e 1).sent.length (C 1)) (st.e 1).sent.length ((st.e 1).sent.map Value.string) := by simpa [rowTy, rowSz, rowLn, rowXs] using hl.own 1 (by omega)
  have HR := (((Rd.of_own hown).alloc (Nat.le_refl _) (.cells #[.slice none 0 0, .int .i64 0, .int .i64 0] 33)).alloc (by simp) (.cells #[.slice (R 1) (st.e 1).sent.length (C 1), .int .i64 (st.e 1).taken, .int .i64 (st.e 1).known] 33)).mono (B' := W.heap.size + 1 + 1) (by omega)
  have hlb := hl.bk.lt
  have q0 : (W.alloc (.cells #[.slice none 0 0, .int .i64 0, .int .i64 0] 33)).cell? ⟨lb, 3, none⟩ = some (.slice (R 1) (st.e 1).sent.length (C 1)) := by rw [World.cell?_alloc_lt _ _ _ hlb, hl.bk.cell]; simp [lkCells]
  have q1 : (W.alloc (.cells #[.slice none 0 0, .int .i64 0, .int .i64 0] 33)).cell? ⟨lb, 4, none⟩ = some (.int .i64 (st.e 1).taken) := by rw [World.cell?_alloc_lt _ _ _ hlb, hl.bk.cell]; simp [lkCells]
  have q2 : (W.alloc (.cells #[.slice none 0 0, .int .i64 0, .int .i64 0] 33)).cell? ⟨lb, 5, none⟩ = some (.int .i64 (st.e 1).known) := by rw [World.cell?_alloc_lt _ _ _ hlb, hl.bk.cell]; simp [lkCells]
  have p0 : W.cell? ⟨lb, 3, none⟩ = some (.slice (R 1) (st.e 1).sent.length (C 1)) := by rw [hl.bk.cell]; simp [lkCells]
  have p1 : W.cell? ⟨lb, 4, none⟩ = some (.int .i64 (st.e 1).taken) := by rw [hl.bk.cell]; simp [lkCells]
  have p2 : W.cell? ⟨lb, 5, none⟩ = some (.int .i64 (st.e 1).known) := by rw [hl.bk.cell]; simp [lkCells]
  obtain ⟨⟨ss, tk, kn⟩, hse⟩ : ∃ s, s = st.e 1 := ⟨_, rfl⟩
  rw [← hse] at HR q0 q1 q2 p0 p1 p2 hs ⊢
  dsimp only at HR q0 q1 q2 p0 p1 p2 hs
  have HRD := Lib.hid HR
  clear hl hown hse HR
  go_enter Try.func12, Try.ntmps12
  go_wp2_with fail
  refine (end_any lb 1 _).mono ?_
  rintro e w' ⟨rfl, hw'⟩
  rw [hw']
  clear hw' w'
  rw [decide_eq_true (by omega)]
  go_wp2_with fail
  refine (clone_any (R 1) ss.length (C 1) ss _ hs (by simpa using HRD.out)).mono ?_
  rintro e w1 ⟨A1, c1, rfl, hn1, hm1, hown, hb⟩
  have HO := Lib.hid hown
  have HB := Lib.hid hb
  clear hown hb q0 q1 q2 p0 p1 p2
  obtain ⟨q0, q1, q2, z0, z1, z2, hg⟩ := (((Bk.new W 33 _).alloc _).below HB.out (by simp; omega)).three
  obtain ⟨r0, r1, r2, y0, y1, y2, hg'⟩ := ((Bk.new (W.alloc (.cells #[.slice none 0 0, .int .i64 0, .int .i64 0] 33)) 33 _).below HB.out (by simp)).three
  simp only [World.size_alloc] at r0 r1 r2 y0 y1 y2 hg'
  go_wp2
  have H1 := HO.out
  have H2 := HB.out
  simp only [World.size_alloc] at H1 H2
  refine bodyPost_ret (v := sideVal (.slice A1 ss.length c1) ⟨ss, tk, kn⟩) (by simp [results, Try.results12, go_sem, sideVal, q0, q1, q2]) rfl ⟨A1, c1, rfl, hn1, hm1, ?_, ?_⟩
  · refine own_mono (base := W.heap.size + 1 + 1) ?_ (by omega)
    repeat (refine ownsRow_setCell_below ?_ (by first | (simp; done) | (simp; omega)) _)
    exact H1
  · repeat (refine Below.setCell ?_ (by simp) _)
    exact (((Below.refl _ W).alloc (Nat.le_refl _) _).alloc (by simp) _).trans (H2.mono (by omega))

def openK (st : Lk) : Int := (st.e 0).sent.length - (st.e 1).taken + (st.e 1).sent.length - (st.e 0).taken
set_option maxHeartbeats 4000000 in
set_option maxRecDepth 100000 in
theorem open_any (L lb : Nat) (st : Lk) (R : Nat → Option Addr) (C : Nat → Nat) (W : World) (hl : LinkAt L lb st R C W) (h0 : (st.e 0).sent.length ≤ 4294967296) (h1 : (st.e 1).sent.length ≤ 4294967296) (t0 : 0 ≤ (st.e 0).taken ∧ (st.e 0).taken ≤ 1099511627776) (t1 : 0 ≤ (st.e 1).taken ∧ (st.e 1).taken ≤ 1099511627776) :
    Calls Try.prog 17 #[.pointer (some ⟨lb, 0, none⟩)] W fun e w' => e = .returned (.int .i64 (openK st)) ∧ Below W.heap.size W w' := by
  have hlb := hl.bk.lt
  have q0 : W.cell? ⟨lb, 0, none⟩ = some (.slice (R 0) (st.e 0).sent.length (C 0)) := by rw [hl.bk.cell]; simp [lkCells]
  have q1 : W.cell? ⟨lb, 1, none⟩ = some (.int .i64 (st.e 0).taken) := by rw [hl.bk.cell]; simp [lkCells]
  have q3 : W.cell? ⟨lb, 3, none⟩ = some (.slice (R 1) (st.e 1).sent.length (C 1)) := by rw [hl.bk.cell]; simp [lkCells]
  have q4 : W.cell? ⟨lb, 4, none⟩ = some (.int .i64 (st.e 1).taken) := by rw [hl.bk.cell]; simp [lkCells]
  unfold openK
  generalize (st.e 0).sent.length = n0 at *
  generalize (st.e 1).sent.length = n1 at *
  generalize (st.e 0).taken = k0 at *
  generalize (st.e 1).taken = k1 at *
  clear hl
  obtain ⟨t00, t01⟩ := t0
  obtain ⟨t10, t11⟩ := t1
  have w1 : IntKind.i64.wrap ((n0 : Int) - k1) = (n0 : Int) - k1 := IntWalk.i64_in _ (by omega)
  have w2 : IntKind.i64.wrap ((n0 : Int) - k1 + n1) = (n0 : Int) - k1 + n1 := IntWalk.i64_in _ (by omega)
  have w3 : IntKind.i64.wrap ((n0 : Int) - k1 + n1 - k0) = (n0 : Int) - k1 + n1 - k0 := IntWalk.i64_in _ (by omega)
  go_enter Try.func17, Try.ntmps17
  go_wp2
  go_quiet (fail)
  go_wp2
  go_ret
  exact ⟨rfl, rfl, rfl, rfl, Nat.le_refl _, fun _ _ => rfl⟩

def st0 : Lk := ⟨fun _ => ⟨[], 0, 0⟩, fun _ => [], fun _ => []⟩
/-- A new link. -/
theorem LinkAt.new (W : World) : LinkAt W.heap.size W.heap.size st0 (fun _ => none) (fun _ => 0) (W.alloc (.cells #[.slice none 0 0, .int .i64 0, .int .i64 0, .slice none 0 0, .int .i64 0, .int .i64 0, .slice none 0 0, .slice none 0 0, .slice none 0 0, .slice none 0 0] 58)) where
  bk := Bk.new W 58 _
  lo := Nat.le_refl _
  own := fun j hj => by
    have h6 : j = 0 ∨ j = 1 ∨ j = 2 ∨ j = 3 ∨ j = 4 ∨ j = 5 := by omega
    rcases h6 with rfl | rfl | rfl | rfl | rfl | rfl <;> exact World.ownsRow_nil _ _ _ _
  dis := fun _ _ _ _ _ p _ hp => by cases hp
set_option maxHeartbeats 2000000 in
theorem new_any (W : World) : Calls Try.prog 9 #[] W fun e w' => e = .returned (.pointer (some ⟨W.heap.size, 0, none⟩)) ∧ LinkAt W.heap.size W.heap.size st0 (fun _ => none) (fun _ => 0) w' ∧ Below W.heap.size W w' := by
  have hL := Lib.hid (LinkAt.new W)
  go_enter Try.func9, Try.ntmps9
  go_wp2
  go_ret
  exact ⟨rfl, hL.out, (Below.refl _ W).alloc (Nat.le_refl _) _⟩

end Go.Proofs.Ytnbndhmdfheikaa
