/- Walk of Lose, at each end. By gen_lc.py. -/
import Derived.Test.YtnbndhmdfheikaaLS
namespace Go.Proofs.Ytnbndhmdfheikaa
open Go.RowKit

/-- A row is cut in place, and the link's cell says so. -/
theorem LinkAt.cut {L lb : Nat} {st st' : Lk} {R : Nat → Option Addr} {C : Nat → Nat} {V w3 : World} {j ci g : Nat} {v : Value} (h : LinkAt L lb st R C V) (hj : j < 6) (hg : R j = some ⟨g, 0, none⟩)
    (hsame : ∀ i, i < 6 → i ≠ j → rowLn st' i = rowLn st i ∧ rowXs st' i = rowXs st i)
    (hown : w3.ownsRow L (rowTy j) (rowSz j) (.slice (some ⟨g, 0, none⟩) (rowLn st' j) (C j)) (rowLn st' j) (rowXs st' j)) (hB : Below L V w3) (hfar : ∀ b, b ≠ g → w3.heap[b]? = V.heap[b]?)
    (hcells : (lkCells st R C).setIfInBounds ci v = lkCells st' (upd R j (some ⟨g, 0, none⟩)) (upd C j (C j))) :
    LinkAt L lb st' (upd R j (some ⟨g, 0, none⟩)) (upd C j (C j)) (w3.setCell ⟨lb, ci, none⟩ v) ∧ Kept lb R (upd R j (some ⟨g, 0, none⟩)) V (w3.setCell ⟨lb, ci, none⟩ v) := by
  have hgl : g ≠ lb := h.row_ne hj hg
  have hb3 : Bk w3 lb 58 (lkCells st R C) := (hfar lb (Ne.symm hgl)).trans h.bk
  refine h.row hj hsame ?_ ?_ (fun b hb hlb hr => ?_) (fun p hp => .inl ⟨_, hg, by injection hp with hp; rw [← hp]⟩) hB.os hB.tape hB.output (by simpa [World.setCell] using hB.size)
  · have := hb3.set ci v
    rwa [hcells] at this
  · refine own_keep hown fun p hp => Below.heap_setCell w3 ⟨lb, ci, none⟩ v p.block ?_
    injection hp with hp
    rw [← hp]
    exact hgl
  · exact (Below.heap_setCell w3 ⟨lb, ci, none⟩ v b hlb).trans (hfar b fun e => hr _ hg e.symm)

/-- The list without its p-th. -/
def without (l : List Fr) (p : Nat) : List Fr := l.take p ++ l.drop (p + 1)
def loseK (st : Lk) (k : Nat) (i : Int) : Lk × Int := if 0 ≤ i ∧ i < (st.u k).length then (st.setU k (without (st.u k) i.toNat), 0) else (st, 1)
theorem without_len {l : List Fr} {p m : Nat} (h : l.length = m + 1) (hp : p < m + 1) : (without l p).length = m := by
  unfold without
  rw [List.length_append, List.length_take, List.length_drop]
  omega
theorem row_open {w : World} {base n c : Nat} {A : Option Addr} {l : List Fr} (h : w.ownsRow base 44 4 (.slice A n c) n (frs l)) (hn : 0 < n) : ∃ g cur, A = some ⟨g, 0, none⟩ ∧ base ≤ g ∧ Bk w g 44 cur ∧ n ≤ c ∧ c ≤ maxLen ∧ cur.size = c * 4 ∧ cur.toList.take (n * 4) = frs l := by
  cases A with
  | none =>
    rcases h.2 with ⟨_, h0⟩ | ⟨g, cap, cur, hv, _⟩
    · omega
    · injection hv with hv
      cases hv
  | some a =>
    obtain ⟨g, cur, rfl, r⟩ := own_open h
    exact ⟨g, cur, rfl, r⟩

set_option maxHeartbeats 8000000 in
set_option maxRecDepth 100000 in
theorem lose_0 (L lb : Nat) (st : Lk) (R : Nat → Option Addr) (C : Nat → Nat) (W : World) (i : Int) (hl : LinkAt L lb st R C W) (hu : (st.u 0).length ≤ 4096) :
    Calls Try.prog 24 #[.pointer (some ⟨lb, 0, none⟩), .int .i64 0, .int .i64 i] W fun e W' => e = .returned (.int .i64 (loseK st 0 i).2) ∧ LOut L lb R W (loseK st 0 i).1 W' := by
  by_cases hin : 0 ≤ i ∧ i < (st.u 0).length
  case neg =>
    rw [show loseK st 0 i = (st, 1) from if_neg hin]
    have q0 : W.cell? ⟨lb, 6, none⟩ = some (.slice (R 2) (st.u 0).length (C 2)) := by rw [hl.bk.cell]; simp [lkCells]
    have hlb := hl.bk.lt
    have HL0 := Lib.hid hl
    obtain ⟨n, hn⟩ : ∃ n, n = (st.u 0).length := ⟨_, rfl⟩
    rw [← hn] at q0 hu hin
    clear hl hn
    by_cases h0 : 0 ≤ i
    · have i1 : ¬ i < 0 := by omega
      have i2 : ¬ i < (n : Int) := fun h => hin ⟨h0, h⟩
      have i3 : (n : Int) ≤ i := by omega
      clear hin
      go_enter Try.func24, Try.ntmps24
      go_wp2_with fail
      refine (end_any lb 0 W).mono ?_
      rintro e w' ⟨rfl, hw'⟩
      rw [hw']
      clear hw' w'
      rw [decide_eq_true (by omega)]
      go_wp2
      go_ret
      exact ⟨rfl, R, C, HL0.out, Kept.refl _ _ _⟩
    · have i1 : i < 0 := by omega
      clear hin
      go_enter Try.func24, Try.ntmps24
      go_wp2_with fail
      refine (end_any lb 0 W).mono ?_
      rintro e w' ⟨rfl, hw'⟩
      rw [hw']
      clear hw' w'
      rw [decide_eq_true (by omega)]
      go_wp2
      go_ret
      exact ⟨rfl, R, C, HL0.out, Kept.refl _ _ _⟩
  rw [show loseK st 0 i = (st.setU 0 (without (st.u 0) i.toNat), 0) from if_pos hin]
  have hown : W.ownsRow L 44 4 (.slice (R 2) (st.u 0).length (C 2)) (st.u 0).length (frs (st.u 0)) := by simpa [rowTy, rowSz, rowLn, rowXs] using hl.own 2 (by omega)
  obtain ⟨p, rfl⟩ : ∃ p : Nat, i = (p : Int) := ⟨i.toNat, by omega⟩
  obtain ⟨m, hm⟩ : ∃ m, (st.u 0).length = m + 1 := ⟨(st.u 0).length - 1, by omega⟩
  have hpm : p < m + 1 := by omega
  obtain ⟨g, cur, hRg, hLg, hBg, hnc, hcm, hsz, htk⟩ := row_open hown (by omega)
  obtain ⟨c, hc⟩ : ∃ c, c = C 2 := ⟨_, rfl⟩
  rw [hm] at htk hnc
  rw [← hc] at hcm hsz hnc
  have HR : Hid (R 2 = some ⟨g, 0, none⟩ ∧ (st.u 0).length = m + 1 ∧ C 2 = c) := ⟨hRg, hm, hc.symm⟩
  rw [Int.toNat_natCast]

  have HDEL := Lib.hid (delete_any L g m c p (st.u 0) cur W.drew hLg hBg.drew hnc hcm hsz hm htk hpm)
  have HGL : Hid (lb ≠ g) := Ne.symm (hl.row_ne (by omega) hRg)
  have q0 : W.cell? ⟨lb, 6, none⟩ = some (.slice (some ⟨g, 0, none⟩) (m + 1) c) := by rw [hl.bk.cell, ← HR.out.1, ← HR.out.2.1, ← HR.out.2.2]; simp [lkCells]
  have hlb := hl.bk.lt
  have HL0 := Lib.hid hl
  have hml : m + 1 ≤ 4096 := by omega
  have i1 : ¬ (p : Int) < 0 := by omega
  have i2 : (p : Int) < (m : Int) + 1 := by omega
  have i3 : ¬ (m : Int) + 1 ≤ (p : Int) := by omega
  have i4 : IntKind.i64.wrap ((p : Int) + 1) = (p : Int) + 1 := IntWalk.i64_in _ (by omega)
  have HPM := Lib.hid hpm
  clear hl hin hown hRg hLg hBg hnc hcm hsz htk hc hm hu hpm
  go_enter Try.func24, Try.ntmps24
  go_wp2_with fail
  refine (end_any lb 0 W).mono ?_
  rintro e w' ⟨rfl, hw'⟩
  rw [hw']
  clear hw' w'
  rw [decide_eq_true (by omega)]
  go_upto_region 3 with (fail)
  have hl0 := hlb
  refine region_anyL (fun V => V.cell? ⟨lb, 6, none⟩ = some (.slice (some ⟨g, 0, none⟩) (m + 1) c)) 15 (by kernel_rfl) ?_
  refine anyL_take (i := 0) (oi := { dst := some 26, op := Op.move (Operand.tmp 0), type := 24, pos := "link.go:112", after := #[], guard := none }) (v := ?_) rfl (by kernel_rfl) (by kernel_rfl) (by kernel_rfl) (by kernel_rfl) (fun _ _ _ h => h) (Or.inl ⟨by rfl, ?_⟩) (q0) ?_
  rotate_left
  · intro w hSw
    try dsimp only at hSw
    have q0 := hSw
    first | (go_simp <;> fail) | (go_simp; with_reducible rfl)
  try simp only [Act.put, List.setIfInBounds_toArray, List.set_cons_zero, List.set_cons_succ]
  refine anyL_take (i := 1) (oi := { dst := some 27, op := Op.move (Operand.tmp 1), type := 3, pos := "link.go:112", after := #[], guard := none }) (v := ?_) rfl (by kernel_rfl) (by kernel_rfl) (by kernel_rfl) (by kernel_rfl) (fun _ _ _ h => h) (Or.inl ⟨by rfl, ?_⟩) (q0) ?_
  rotate_left
  · intro w hSw
    try dsimp only at hSw
    have q0 := hSw
    first | (go_simp <;> fail) | (go_simp; with_reducible rfl)
  try simp only [Act.put, List.setIfInBounds_toArray, List.set_cons_zero, List.set_cons_succ]
  refine anyL_take (i := 2) (oi := { dst := some 28, op := Op.move (Operand.tmp 0), type := 24, pos := "link.go:112", after := #[], guard := none }) (v := ?_) rfl (by kernel_rfl) (by kernel_rfl) (by kernel_rfl) (by kernel_rfl) (fun _ _ _ h => h) (Or.inl ⟨by rfl, ?_⟩) (q0) ?_
  rotate_left
  · intro w hSw
    try dsimp only at hSw
    have q0 := hSw
    first | (go_simp <;> fail) | (go_simp; with_reducible rfl)
  try simp only [Act.put, List.setIfInBounds_toArray, List.set_cons_zero, List.set_cons_succ]
  refine anyL_take (i := 3) (oi := { dst := some 29, op := Op.move (Operand.tmp 1), type := 3, pos := "link.go:112", after := #[], guard := none }) (v := ?_) rfl (by kernel_rfl) (by kernel_rfl) (by kernel_rfl) (by kernel_rfl) (fun _ _ _ h => h) (Or.inl ⟨by rfl, ?_⟩) (q0) ?_
  rotate_left
  · intro w hSw
    try dsimp only at hSw
    have q0 := hSw
    first | (go_simp <;> fail) | (go_simp; with_reducible rfl)
  try simp only [Act.put, List.setIfInBounds_toArray, List.set_cons_zero, List.set_cons_succ]
  refine anyL_take (i := 4) (oi := { dst := some 30, op := Op.nilCheck (Operand.tmp 28), type := 0, pos := "link.go:112", after := #[{ on := 2, ground := Ground.data }], guard := none }) (v := ?_) rfl (by kernel_rfl) (by kernel_rfl) (by kernel_rfl) (by kernel_rfl) (fun _ _ _ h => h) (Or.inl ⟨by rfl, ?_⟩) (q0) ?_
  rotate_left
  · intro w hSw
    try dsimp only at hSw
    have q0 := hSw
    first | (go_simp <;> fail) | (go_simp; with_reducible rfl)
  try simp only [Act.put, List.setIfInBounds_toArray, List.set_cons_zero, List.set_cons_succ]
  refine anyL_take (i := 5) (oi := { dst := some 31, op := Op.fieldAddr 58 (Operand.tmp 30) 1, type := 0, pos := "link.go:112", after := #[{ on := 4, ground := Ground.data }], guard := none }) (v := ?_) rfl (by kernel_rfl) (by kernel_rfl) (by kernel_rfl) (by kernel_rfl) (fun _ _ _ h => h) (Or.inl ⟨by rfl, ?_⟩) (q0) ?_
  rotate_left
  · intro w hSw
    try dsimp only at hSw
    have q0 := hSw
    first | (go_simp <;> fail) | (go_simp; with_reducible rfl)
  try simp only [Act.put, List.setIfInBounds_toArray, List.set_cons_zero, List.set_cons_succ]
  refine anyL_take (i := 6) (oi := { dst := some 32, op := Op.indexAddr 49 (Operand.tmp 31) (Operand.tmp 29), type := 0, pos := "link.go:112", after := #[{ on := 5, ground := Ground.data }, { on := 3, ground := Ground.data }], guard := none }) (v := ?_) rfl (by kernel_rfl) (by kernel_rfl) (by kernel_rfl) (by kernel_rfl) (fun _ _ _ h => h) (Or.inl ⟨by rfl, ?_⟩) (q0) ?_
  rotate_left
  · intro w hSw
    try dsimp only at hSw
    have q0 := hSw
    first | (go_simp <;> fail) | (go_simp; with_reducible rfl)
  try simp only [Act.put, List.setIfInBounds_toArray, List.set_cons_zero, List.set_cons_succ]
  refine anyL_take (i := 7) (oi := { dst := some 33, op := Op.load 38 (Operand.tmp 32), type := 38, pos := "link.go:112", after := #[{ on := 6, ground := Ground.data }], guard := none }) (v := ?_) rfl (by kernel_rfl) (by kernel_rfl) (by kernel_rfl) (by kernel_rfl) (fun _ _ _ h => h) (Or.inl ⟨by rfl, ?_⟩) (q0) ?_
  rotate_left
  · intro w hSw
    try dsimp only at hSw
    have q0 := hSw
    first | (go_simp <;> fail) | (go_simp; with_reducible rfl)
  try simp only [Act.put, List.setIfInBounds_toArray, List.set_cons_zero, List.set_cons_succ]
  refine anyL_take (i := 8) (oi := { dst := some 34, op := Op.move (Operand.tmp 2), type := 3, pos := "link.go:112", after := #[], guard := none }) (v := ?_) rfl (by kernel_rfl) (by kernel_rfl) (by kernel_rfl) (by kernel_rfl) (fun _ _ _ h => h) (Or.inl ⟨by rfl, ?_⟩) (q0) ?_
  rotate_left
  · intro w hSw
    try dsimp only at hSw
    have q0 := hSw
    first | (go_simp <;> fail) | (go_simp; with_reducible rfl)
  try simp only [Act.put, List.setIfInBounds_toArray, List.set_cons_zero, List.set_cons_succ]
  refine anyL_take (i := 9) (oi := { dst := some 35, op := Op.move (Operand.tmp 2), type := 3, pos := "link.go:112", after := #[], guard := none }) (v := ?_) rfl (by kernel_rfl) (by kernel_rfl) (by kernel_rfl) (by kernel_rfl) (fun _ _ _ h => h) (Or.inl ⟨by rfl, ?_⟩) (q0) ?_
  rotate_left
  · intro w hSw
    try dsimp only at hSw
    have q0 := hSw
    first | (go_simp <;> fail) | (go_simp; with_reducible rfl)
  try simp only [Act.put, List.setIfInBounds_toArray, List.set_cons_zero, List.set_cons_succ]
  refine anyL_take (i := 10) (oi := { dst := some 36, op := Op.binOp BinOp.add 3 (Operand.tmp 35) (Operand.const (Value.int IntKind.i64 1)) 3, type := 3, pos := "link.go:112", after := #[{ on := 9, ground := Ground.data }], guard := none }) (v := ?_) rfl (by kernel_rfl) (by kernel_rfl) (by kernel_rfl) (by kernel_rfl) (fun _ _ _ h => h) (Or.inl ⟨by rfl, ?_⟩) (q0) ?_
  rotate_left
  · intro w hSw
    try dsimp only at hSw
    have q0 := hSw
    first | (go_simp <;> fail) | (go_simp; with_reducible rfl)
  try simp only [Act.put, List.setIfInBounds_toArray, List.set_cons_zero, List.set_cons_succ]
  refine anyL_takeC [13, 14] (i := 12) (oi := { dst := some 38, op := Op.nilCheck (Operand.tmp 26), type := 0, pos := "link.go:112", after := #[{ on := 0, ground := Ground.data }], guard := none }) (v := ?_) rfl (by kernel_rfl) (by kernel_rfl) (by kernel_rfl) (by kernel_rfl) (by kernel_rfl) (fun _ _ _ h => h) (Or.inl ⟨by rfl, ?_⟩) (q0) ?_
  rotate_left
  · intro w hSw
    try dsimp only at hSw
    have q0 := hSw
    first | (go_simp <;> fail) | (go_simp; with_reducible rfl)
  try simp only [Act.put, List.setIfInBounds_toArray, List.set_cons_zero, List.set_cons_succ]
  refine anyL_takeC [14] (i := 13) (oi := { dst := some 39, op := Op.fieldAddr 58 (Operand.tmp 38) 1, type := 0, pos := "link.go:112", after := #[{ on := 12, ground := Ground.data }], guard := none }) (v := ?_) rfl (by kernel_rfl) (by kernel_rfl) (by kernel_rfl) (by kernel_rfl) (by kernel_rfl) (fun _ _ _ h => h) (Or.inl ⟨by rfl, ?_⟩) (q0) ?_
  rotate_left
  · intro w hSw
    try dsimp only at hSw
    have q0 := hSw
    first | (go_simp <;> fail) | (go_simp; with_reducible rfl)
  try simp only [Act.put, List.setIfInBounds_toArray, List.set_cons_zero, List.set_cons_succ]
  refine anyL_one (i := 11) (o := { dst := some 37, op := Op.call { callee := Callee.value (Operand.func 30), args := #[Operand.tmp 33, Operand.tmp 34, Operand.tmp 36], argTypes := #[38, 3, 3] }, type := 38, pos := "link.go:112", after := #[{ on := 7, ground := Ground.data }, { on := 8, ground := Ground.data }, { on := 10, ground := Ground.data }], guard := none }) (by kernel_rfl) rfl (fun K hK => ?_)
  go_simp
  refine HDEL.out.mono ?_
  rintro e w3 ⟨rfl, ho3, hb3, hf3⟩
  have hlb3 : Bk w3 lb 58 (lkCells st R C) := (hf3 lb HGL.out).trans HL0.out.bk
  have q0 : w3.cell? ⟨lb, 6, none⟩ = some (.slice (some ⟨g, 0, none⟩) (m + 1) c) := by rw [hlb3.cell, ← HR.out.1, ← HR.out.2.1, ← HR.out.2.2]; simp [lkCells]
  have z0 := hlb3.frozen 6
  have hlb := hlb3.lt
  have HO3 := Lib.hid ho3
  have HB3 := Lib.hid hb3
  have HF3 := Lib.hid hf3
  clear hlb3 ho3 hb3 hf3 hl0
  dsimp only
  refine hK.out _ _ (fun _ => q0) ?_
  clear hK K
  try simp only [Act.put, List.setIfInBounds_toArray, List.set_cons_zero, List.set_cons_succ]
  refine anyL_take (i := 14) (oi := { dst := some 40, op := Op.indexAddr 49 (Operand.tmp 39) (Operand.tmp 27), type := 0, pos := "link.go:112", after := #[{ on := 13, ground := Ground.data }, { on := 1, ground := Ground.data }, { on := 0, ground := Ground.phase }, { on := 1, ground := Ground.phase }, { on := 2, ground := Ground.phase }, { on := 3, ground := Ground.phase }, { on := 4, ground := Ground.phase }, { on := 5, ground := Ground.phase }, { on := 6, ground := Ground.phase }, { on := 7, ground := Ground.phase }, { on := 8, ground := Ground.phase }, { on := 9, ground := Ground.phase }, { on := 10, ground := Ground.phase }, { on := 11, ground := Ground.phase }], guard := none }) (v := ?_) rfl (by kernel_rfl) (by kernel_rfl) (by kernel_rfl) (by kernel_rfl) (fun _ _ _ h => h) (Or.inl ⟨by rfl, ?_⟩) (q0) ?_
  rotate_left
  · intro w hSw
    try dsimp only at hSw
    have q0 := hSw
    first | (go_simp <;> fail) | (go_simp; with_reducible rfl)
  try simp only [Act.put, List.setIfInBounds_toArray, List.set_cons_zero, List.set_cons_succ]
  refine anyL_one (i := 15) (o := { dst := none, op := Op.store 38 (Operand.tmp 40) (Operand.tmp 37), type := 0, pos := "link.go:112", after := #[{ on := 14, ground := Ground.data }, { on := 11, ground := Ground.data }, { on := 11, ground := Ground.chain }, { on := 0, ground := Ground.phase }, { on := 1, ground := Ground.phase }, { on := 2, ground := Ground.phase }, { on := 3, ground := Ground.phase }, { on := 4, ground := Ground.phase }, { on := 5, ground := Ground.phase }, { on := 6, ground := Ground.phase }, { on := 7, ground := Ground.phase }, { on := 8, ground := Ground.phase }, { on := 9, ground := Ground.phase }, { on := 10, ground := Ground.phase }, { on := 11, ground := Ground.phase }], guard := none }) (by kernel_rfl) rfl (fun K hK => ?_)
  go_simp
  refine hK.out _ _ (fun h0 => absurd rfl h0) ?_
  clear hK K
  try simp only [Act.put, List.setIfInBounds_toArray, List.set_cons_zero, List.set_cons_succ]
  refine anyL_done (by kernel_rfl) ?_ _
  have hres := LinkAt.cut (st' := st.setU 0 (without (st.u 0) p)) (j := 2) (ci := 6) (v := .slice (some ⟨g, 0, none⟩) m c) HL0.out.drew (by omega) HR.out.1 (fun i hi hne => by
    have h6 : i = 0 ∨ i = 1 ∨ i = 2 ∨ i = 3 ∨ i = 4 ∨ i = 5 := by omega
    rcases h6 with rfl | rfl | rfl | rfl | rfl | rfl <;> first | exact absurd rfl hne | simp [rowLn, rowXs, Lk.setU, upd])
    (by show w3.ownsRow L 44 4 (.slice (some ⟨g, 0, none⟩) (without (st.u 0) p).length (C 2)) (without (st.u 0) p).length (frs (without (st.u 0) p)); rw [without_len HR.out.2.1 HPM.out, HR.out.2.2]; exact HO3.out) HB3.out HF3.out (by have hw := without_len HR.out.2.1 HPM.out; simp [lkCells, Lk.setU, upd, hw, HR.out.2.2])
  have HRES := Lib.hid hres
  go_wp2
  go_ret
  exact ⟨rfl, _, _, HRES.out.1, (Kept.of_below _ _ ((Below.refl _ W).drew)).trans HRES.out.2⟩

set_option maxHeartbeats 8000000 in
set_option maxRecDepth 100000 in
theorem lose_1 (L lb : Nat) (st : Lk) (R : Nat → Option Addr) (C : Nat → Nat) (W : World) (i : Int) (hl : LinkAt L lb st R C W) (hu : (st.u 1).length ≤ 4096) :
    Calls Try.prog 24 #[.pointer (some ⟨lb, 0, none⟩), .int .i64 1, .int .i64 i] W fun e W' => e = .returned (.int .i64 (loseK st 1 i).2) ∧ LOut L lb R W (loseK st 1 i).1 W' := by
  by_cases hin : 0 ≤ i ∧ i < (st.u 1).length
  case neg =>
    rw [show loseK st 1 i = (st, 1) from if_neg hin]
    have q0 : W.cell? ⟨lb, 7, none⟩ = some (.slice (R 3) (st.u 1).length (C 3)) := by rw [hl.bk.cell]; simp [lkCells]
    have hlb := hl.bk.lt
    have HL0 := Lib.hid hl
    obtain ⟨n, hn⟩ : ∃ n, n = (st.u 1).length := ⟨_, rfl⟩
    rw [← hn] at q0 hu hin
    clear hl hn
    by_cases h0 : 0 ≤ i
    · have i1 : ¬ i < 0 := by omega
      have i2 : ¬ i < (n : Int) := fun h => hin ⟨h0, h⟩
      have i3 : (n : Int) ≤ i := by omega
      clear hin
      go_enter Try.func24, Try.ntmps24
      go_wp2_with fail
      refine (end_any lb 1 W).mono ?_
      rintro e w' ⟨rfl, hw'⟩
      rw [hw']
      clear hw' w'
      rw [decide_eq_true (by omega)]
      go_wp2
      go_ret
      exact ⟨rfl, R, C, HL0.out, Kept.refl _ _ _⟩
    · have i1 : i < 0 := by omega
      clear hin
      go_enter Try.func24, Try.ntmps24
      go_wp2_with fail
      refine (end_any lb 1 W).mono ?_
      rintro e w' ⟨rfl, hw'⟩
      rw [hw']
      clear hw' w'
      rw [decide_eq_true (by omega)]
      go_wp2
      go_ret
      exact ⟨rfl, R, C, HL0.out, Kept.refl _ _ _⟩
  rw [show loseK st 1 i = (st.setU 1 (without (st.u 1) i.toNat), 0) from if_pos hin]
  have hown : W.ownsRow L 44 4 (.slice (R 3) (st.u 1).length (C 3)) (st.u 1).length (frs (st.u 1)) := by simpa [rowTy, rowSz, rowLn, rowXs] using hl.own 3 (by omega)
  obtain ⟨p, rfl⟩ : ∃ p : Nat, i = (p : Int) := ⟨i.toNat, by omega⟩
  obtain ⟨m, hm⟩ : ∃ m, (st.u 1).length = m + 1 := ⟨(st.u 1).length - 1, by omega⟩
  have hpm : p < m + 1 := by omega
  obtain ⟨g, cur, hRg, hLg, hBg, hnc, hcm, hsz, htk⟩ := row_open hown (by omega)
  obtain ⟨c, hc⟩ : ∃ c, c = C 3 := ⟨_, rfl⟩
  rw [hm] at htk hnc
  rw [← hc] at hcm hsz hnc
  have HR : Hid (R 3 = some ⟨g, 0, none⟩ ∧ (st.u 1).length = m + 1 ∧ C 3 = c) := ⟨hRg, hm, hc.symm⟩
  rw [Int.toNat_natCast]

  have HDEL := Lib.hid (delete_any L g m c p (st.u 1) cur W.drew hLg hBg.drew hnc hcm hsz hm htk hpm)
  have HGL : Hid (lb ≠ g) := Ne.symm (hl.row_ne (by omega) hRg)
  have q0 : W.cell? ⟨lb, 7, none⟩ = some (.slice (some ⟨g, 0, none⟩) (m + 1) c) := by rw [hl.bk.cell, ← HR.out.1, ← HR.out.2.1, ← HR.out.2.2]; simp [lkCells]
  have hlb := hl.bk.lt
  have HL0 := Lib.hid hl
  have hml : m + 1 ≤ 4096 := by omega
  have i1 : ¬ (p : Int) < 0 := by omega
  have i2 : (p : Int) < (m : Int) + 1 := by omega
  have i3 : ¬ (m : Int) + 1 ≤ (p : Int) := by omega
  have i4 : IntKind.i64.wrap ((p : Int) + 1) = (p : Int) + 1 := IntWalk.i64_in _ (by omega)
  have HPM := Lib.hid hpm
  clear hl hin hown hRg hLg hBg hnc hcm hsz htk hc hm hu hpm
  go_enter Try.func24, Try.ntmps24
  go_wp2_with fail
  refine (end_any lb 1 W).mono ?_
  rintro e w' ⟨rfl, hw'⟩
  rw [hw']
  clear hw' w'
  rw [decide_eq_true (by omega)]
  go_upto_region 3 with (fail)
  have hl0 := hlb
  refine region_anyL (fun V => V.cell? ⟨lb, 7, none⟩ = some (.slice (some ⟨g, 0, none⟩) (m + 1) c)) 15 (by kernel_rfl) ?_
  refine anyL_take (i := 0) (oi := { dst := some 26, op := Op.move (Operand.tmp 0), type := 24, pos := "link.go:112", after := #[], guard := none }) (v := ?_) rfl (by kernel_rfl) (by kernel_rfl) (by kernel_rfl) (by kernel_rfl) (fun _ _ _ h => h) (Or.inl ⟨by rfl, ?_⟩) (q0) ?_
  rotate_left
  · intro w hSw
    try dsimp only at hSw
    have q0 := hSw
    first | (go_simp <;> fail) | (go_simp; with_reducible rfl)
  try simp only [Act.put, List.setIfInBounds_toArray, List.set_cons_zero, List.set_cons_succ]
  refine anyL_take (i := 1) (oi := { dst := some 27, op := Op.move (Operand.tmp 1), type := 3, pos := "link.go:112", after := #[], guard := none }) (v := ?_) rfl (by kernel_rfl) (by kernel_rfl) (by kernel_rfl) (by kernel_rfl) (fun _ _ _ h => h) (Or.inl ⟨by rfl, ?_⟩) (q0) ?_
  rotate_left
  · intro w hSw
    try dsimp only at hSw
    have q0 := hSw
    first | (go_simp <;> fail) | (go_simp; with_reducible rfl)
  try simp only [Act.put, List.setIfInBounds_toArray, List.set_cons_zero, List.set_cons_succ]
  refine anyL_take (i := 2) (oi := { dst := some 28, op := Op.move (Operand.tmp 0), type := 24, pos := "link.go:112", after := #[], guard := none }) (v := ?_) rfl (by kernel_rfl) (by kernel_rfl) (by kernel_rfl) (by kernel_rfl) (fun _ _ _ h => h) (Or.inl ⟨by rfl, ?_⟩) (q0) ?_
  rotate_left
  · intro w hSw
    try dsimp only at hSw
    have q0 := hSw
    first | (go_simp <;> fail) | (go_simp; with_reducible rfl)
  try simp only [Act.put, List.setIfInBounds_toArray, List.set_cons_zero, List.set_cons_succ]
  refine anyL_take (i := 3) (oi := { dst := some 29, op := Op.move (Operand.tmp 1), type := 3, pos := "link.go:112", after := #[], guard := none }) (v := ?_) rfl (by kernel_rfl) (by kernel_rfl) (by kernel_rfl) (by kernel_rfl) (fun _ _ _ h => h) (Or.inl ⟨by rfl, ?_⟩) (q0) ?_
  rotate_left
  · intro w hSw
    try dsimp only at hSw
    have q0 := hSw
    first | (go_simp <;> fail) | (go_simp; with_reducible rfl)
  try simp only [Act.put, List.setIfInBounds_toArray, List.set_cons_zero, List.set_cons_succ]
  refine anyL_take (i := 4) (oi := { dst := some 30, op := Op.nilCheck (Operand.tmp 28), type := 0, pos := "link.go:112", after := #[{ on := 2, ground := Ground.data }], guard := none }) (v := ?_) rfl (by kernel_rfl) (by kernel_rfl) (by kernel_rfl) (by kernel_rfl) (fun _ _ _ h => h) (Or.inl ⟨by rfl, ?_⟩) (q0) ?_
  rotate_left
  · intro w hSw
    try dsimp only at hSw
    have q0 := hSw
    first | (go_simp <;> fail) | (go_simp; with_reducible rfl)
  try simp only [Act.put, List.setIfInBounds_toArray, List.set_cons_zero, List.set_cons_succ]
  refine anyL_take (i := 5) (oi := { dst := some 31, op := Op.fieldAddr 58 (Operand.tmp 30) 1, type := 0, pos := "link.go:112", after := #[{ on := 4, ground := Ground.data }], guard := none }) (v := ?_) rfl (by kernel_rfl) (by kernel_rfl) (by kernel_rfl) (by kernel_rfl) (fun _ _ _ h => h) (Or.inl ⟨by rfl, ?_⟩) (q0) ?_
  rotate_left
  · intro w hSw
    try dsimp only at hSw
    have q0 := hSw
    first | (go_simp <;> fail) | (go_simp; with_reducible rfl)
  try simp only [Act.put, List.setIfInBounds_toArray, List.set_cons_zero, List.set_cons_succ]
  refine anyL_take (i := 6) (oi := { dst := some 32, op := Op.indexAddr 49 (Operand.tmp 31) (Operand.tmp 29), type := 0, pos := "link.go:112", after := #[{ on := 5, ground := Ground.data }, { on := 3, ground := Ground.data }], guard := none }) (v := ?_) rfl (by kernel_rfl) (by kernel_rfl) (by kernel_rfl) (by kernel_rfl) (fun _ _ _ h => h) (Or.inl ⟨by rfl, ?_⟩) (q0) ?_
  rotate_left
  · intro w hSw
    try dsimp only at hSw
    have q0 := hSw
    first | (go_simp <;> fail) | (go_simp; with_reducible rfl)
  try simp only [Act.put, List.setIfInBounds_toArray, List.set_cons_zero, List.set_cons_succ]
  refine anyL_take (i := 7) (oi := { dst := some 33, op := Op.load 38 (Operand.tmp 32), type := 38, pos := "link.go:112", after := #[{ on := 6, ground := Ground.data }], guard := none }) (v := ?_) rfl (by kernel_rfl) (by kernel_rfl) (by kernel_rfl) (by kernel_rfl) (fun _ _ _ h => h) (Or.inl ⟨by rfl, ?_⟩) (q0) ?_
  rotate_left
  · intro w hSw
    try dsimp only at hSw
    have q0 := hSw
    first | (go_simp <;> fail) | (go_simp; with_reducible rfl)
  try simp only [Act.put, List.setIfInBounds_toArray, List.set_cons_zero, List.set_cons_succ]
  refine anyL_take (i := 8) (oi := { dst := some 34, op := Op.move (Operand.tmp 2), type := 3, pos := "link.go:112", after := #[], guard := none }) (v := ?_) rfl (by kernel_rfl) (by kernel_rfl) (by kernel_rfl) (by kernel_rfl) (fun _ _ _ h => h) (Or.inl ⟨by rfl, ?_⟩) (q0) ?_
  rotate_left
  · intro w hSw
    try dsimp only at hSw
    have q0 := hSw
    first | (go_simp <;> fail) | (go_simp; with_reducible rfl)
  try simp only [Act.put, List.setIfInBounds_toArray, List.set_cons_zero, List.set_cons_succ]
  refine anyL_take (i := 9) (oi := { dst := some 35, op := Op.move (Operand.tmp 2), type := 3, pos := "link.go:112", after := #[], guard := none }) (v := ?_) rfl (by kernel_rfl) (by kernel_rfl) (by kernel_rfl) (by kernel_rfl) (fun _ _ _ h => h) (Or.inl ⟨by rfl, ?_⟩) (q0) ?_
  rotate_left
  · intro w hSw
    try dsimp only at hSw
    have q0 := hSw
    first | (go_simp <;> fail) | (go_simp; with_reducible rfl)
  try simp only [Act.put, List.setIfInBounds_toArray, List.set_cons_zero, List.set_cons_succ]
  refine anyL_take (i := 10) (oi := { dst := some 36, op := Op.binOp BinOp.add 3 (Operand.tmp 35) (Operand.const (Value.int IntKind.i64 1)) 3, type := 3, pos := "link.go:112", after := #[{ on := 9, ground := Ground.data }], guard := none }) (v := ?_) rfl (by kernel_rfl) (by kernel_rfl) (by kernel_rfl) (by kernel_rfl) (fun _ _ _ h => h) (Or.inl ⟨by rfl, ?_⟩) (q0) ?_
  rotate_left
  · intro w hSw
    try dsimp only at hSw
    have q0 := hSw
    first | (go_simp <;> fail) | (go_simp; with_reducible rfl)
  try simp only [Act.put, List.setIfInBounds_toArray, List.set_cons_zero, List.set_cons_succ]
  refine anyL_takeC [13, 14] (i := 12) (oi := { dst := some 38, op := Op.nilCheck (Operand.tmp 26), type := 0, pos := "link.go:112", after := #[{ on := 0, ground := Ground.data }], guard := none }) (v := ?_) rfl (by kernel_rfl) (by kernel_rfl) (by kernel_rfl) (by kernel_rfl) (by kernel_rfl) (fun _ _ _ h => h) (Or.inl ⟨by rfl, ?_⟩) (q0) ?_
  rotate_left
  · intro w hSw
    try dsimp only at hSw
    have q0 := hSw
    first | (go_simp <;> fail) | (go_simp; with_reducible rfl)
  try simp only [Act.put, List.setIfInBounds_toArray, List.set_cons_zero, List.set_cons_succ]
  refine anyL_takeC [14] (i := 13) (oi := { dst := some 39, op := Op.fieldAddr 58 (Operand.tmp 38) 1, type := 0, pos := "link.go:112", after := #[{ on := 12, ground := Ground.data }], guard := none }) (v := ?_) rfl (by kernel_rfl) (by kernel_rfl) (by kernel_rfl) (by kernel_rfl) (by kernel_rfl) (fun _ _ _ h => h) (Or.inl ⟨by rfl, ?_⟩) (q0) ?_
  rotate_left
  · intro w hSw
    try dsimp only at hSw
    have q0 := hSw
    first | (go_simp <;> fail) | (go_simp; with_reducible rfl)
  try simp only [Act.put, List.setIfInBounds_toArray, List.set_cons_zero, List.set_cons_succ]
  refine anyL_one (i := 11) (o := { dst := some 37, op := Op.call { callee := Callee.value (Operand.func 30), args := #[Operand.tmp 33, Operand.tmp 34, Operand.tmp 36], argTypes := #[38, 3, 3] }, type := 38, pos := "link.go:112", after := #[{ on := 7, ground := Ground.data }, { on := 8, ground := Ground.data }, { on := 10, ground := Ground.data }], guard := none }) (by kernel_rfl) rfl (fun K hK => ?_)
  go_simp
  refine HDEL.out.mono ?_
  rintro e w3 ⟨rfl, ho3, hb3, hf3⟩
  have hlb3 : Bk w3 lb 58 (lkCells st R C) := (hf3 lb HGL.out).trans HL0.out.bk
  have q0 : w3.cell? ⟨lb, 7, none⟩ = some (.slice (some ⟨g, 0, none⟩) (m + 1) c) := by rw [hlb3.cell, ← HR.out.1, ← HR.out.2.1, ← HR.out.2.2]; simp [lkCells]
  have z0 := hlb3.frozen 7
  have hlb := hlb3.lt
  have HO3 := Lib.hid ho3
  have HB3 := Lib.hid hb3
  have HF3 := Lib.hid hf3
  clear hlb3 ho3 hb3 hf3 hl0
  dsimp only
  refine hK.out _ _ (fun _ => q0) ?_
  clear hK K
  try simp only [Act.put, List.setIfInBounds_toArray, List.set_cons_zero, List.set_cons_succ]
  refine anyL_take (i := 14) (oi := { dst := some 40, op := Op.indexAddr 49 (Operand.tmp 39) (Operand.tmp 27), type := 0, pos := "link.go:112", after := #[{ on := 13, ground := Ground.data }, { on := 1, ground := Ground.data }, { on := 0, ground := Ground.phase }, { on := 1, ground := Ground.phase }, { on := 2, ground := Ground.phase }, { on := 3, ground := Ground.phase }, { on := 4, ground := Ground.phase }, { on := 5, ground := Ground.phase }, { on := 6, ground := Ground.phase }, { on := 7, ground := Ground.phase }, { on := 8, ground := Ground.phase }, { on := 9, ground := Ground.phase }, { on := 10, ground := Ground.phase }, { on := 11, ground := Ground.phase }], guard := none }) (v := ?_) rfl (by kernel_rfl) (by kernel_rfl) (by kernel_rfl) (by kernel_rfl) (fun _ _ _ h => h) (Or.inl ⟨by rfl, ?_⟩) (q0) ?_
  rotate_left
  · intro w hSw
    try dsimp only at hSw
    have q0 := hSw
    first | (go_simp <;> fail) | (go_simp; with_reducible rfl)
  try simp only [Act.put, List.setIfInBounds_toArray, List.set_cons_zero, List.set_cons_succ]
  refine anyL_one (i := 15) (o := { dst := none, op := Op.store 38 (Operand.tmp 40) (Operand.tmp 37), type := 0, pos := "link.go:112", after := #[{ on := 14, ground := Ground.data }, { on := 11, ground := Ground.data }, { on := 11, ground := Ground.chain }, { on := 0, ground := Ground.phase }, { on := 1, ground := Ground.phase }, { on := 2, ground := Ground.phase }, { on := 3, ground := Ground.phase }, { on := 4, ground := Ground.phase }, { on := 5, ground := Ground.phase }, { on := 6, ground := Ground.phase }, { on := 7, ground := Ground.phase }, { on := 8, ground := Ground.phase }, { on := 9, ground := Ground.phase }, { on := 10, ground := Ground.phase }, { on := 11, ground := Ground.phase }], guard := none }) (by kernel_rfl) rfl (fun K hK => ?_)
  go_simp
  refine hK.out _ _ (fun h0 => absurd rfl h0) ?_
  clear hK K
  try simp only [Act.put, List.setIfInBounds_toArray, List.set_cons_zero, List.set_cons_succ]
  refine anyL_done (by kernel_rfl) ?_ _
  have hres := LinkAt.cut (st' := st.setU 1 (without (st.u 1) p)) (j := 3) (ci := 7) (v := .slice (some ⟨g, 0, none⟩) m c) HL0.out.drew (by omega) HR.out.1 (fun i hi hne => by
    have h6 : i = 0 ∨ i = 1 ∨ i = 2 ∨ i = 3 ∨ i = 4 ∨ i = 5 := by omega
    rcases h6 with rfl | rfl | rfl | rfl | rfl | rfl <;> first | exact absurd rfl hne | simp [rowLn, rowXs, Lk.setU, upd])
    (by show w3.ownsRow L 44 4 (.slice (some ⟨g, 0, none⟩) (without (st.u 1) p).length (C 3)) (without (st.u 1) p).length (frs (without (st.u 1) p)); rw [without_len HR.out.2.1 HPM.out, HR.out.2.2]; exact HO3.out) HB3.out HF3.out (by have hw := without_len HR.out.2.1 HPM.out; simp [lkCells, Lk.setU, upd, hw, HR.out.2.2])
  have HRES := Lib.hid hres
  go_wp2
  go_ret
  exact ⟨rfl, _, _, HRES.out.1, (Kept.of_below _ _ ((Below.refl _ W).drew)).trans HRES.out.2⟩

end Go.Proofs.Ytnbndhmdfheikaa
