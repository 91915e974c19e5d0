/- The texts DV DW in one. By merge_d.py. -/
import Derived.Test.YtnbndhmdfheikaaDLD
import Derived.Test.YtnbndhmdfheikaaLOw
/- Both links side by side; a nil link. By gen_dw.py. -/
namespace Go.Proofs.Ytnbndhmdfheikaa
open Go.RowKit

/-- The document's link, new. -/
theorem D.LinkAt.new (W : World) : D.LinkAt W.heap.size W.heap.size st0 (fun _ => none) (fun _ => 0) (W.alloc (.cells #[.slice none 0 0, .int .i64 0, .int .i64 0, .slice none 0 0, .int .i64 0, .int .i64 0, .slice none 0 0, .slice none 0 0, .slice none 0 0, .slice none 0 0] 52)) where
  bk := Bk.new W 52 _
  lo := Nat.le_refl _
  own := fun j hj => by
    have h6 : j = 0 ∨ j = 1 ∨ j = 2 ∨ j = 3 ∨ j = 4 ∨ j = 5 := by omega
    rcases h6 with rfl | rfl | rfl | rfl | rfl | rfl <;> exact World.ownsRow_nil _ _ _ _
  dis := fun _ _ _ _ _ p _ hp => by cases hp

/-- The program's link and the document's, apart. -/
def PairAt (B bm : Nat) (s s' : Lk) (R R' : Nat → Option Addr) (C C' : Nat → Nat) (w V : World) : Prop :=
  LinkAt B B s R C V ∧ D.LinkAt bm bm s' R' C' V ∧ (∀ b, inLink B R b → ¬ D.inLink bm R' b) ∧ Below B w V ∧ B ≤ V.heap.size ∧ B ≤ bm
def Pair (B bm : Nat) (s s' : Lk) (w V : World) : Prop := ∃ R R' C C', PairAt B bm s s' R R' C C' w V

section
variable {B bm : Nat} {s s' : Lk} {R R' : Nat → Option Addr} {C C' : Nat → Nat} {w V W : World}
theorem PairAt.over (h : PairAt B bm s s' R R' C C' w V) (hb : Below V.heap.size V W) : PairAt B bm s s' R R' C C' w W :=
  ⟨h.1.over hb, h.2.1.over hb, h.2.2.1, h.2.2.2.1.trans (hb.mono h.2.2.2.2.1), Nat.le_trans h.2.2.2.2.1 hb.size, h.2.2.2.2.2⟩
theorem Pair.over (h : Pair B bm s s' w V) (hb : Below V.heap.size V W) : Pair B bm s s' w W := by
  obtain ⟨R, R', C, C', h⟩ := h
  exact ⟨R, R', C, C', h.over hb⟩
end

/-- Both links, and a variable beside them. -/
def PairX (B bm bx : Nat) (cs : Array Value) (s s' : Lk) (w V : World) : Prop := ∃ R R' C C', PairAt B bm s s' R R' C C' w V ∧ ¬ inLink B R bx ∧ ¬ D.inLink bm R' bx ∧ Bk V bx 27 cs
section
variable {B bm bx : Nat} {cs : Array Value} {s s' : Lk} {w V W : World}
theorem PairX.pair (h : PairX B bm bx cs s s' w V) : Pair B bm s s' w V := by
  obtain ⟨R, R', C, C', h, _⟩ := h
  exact ⟨R, R', C, C', h⟩
theorem PairX.bk (h : PairX B bm bx cs s s' w V) : Bk V bx 27 cs := by
  obtain ⟨_, _, _, _, _, _, _, h⟩ := h
  exact h
theorem PairX.over (h : PairX B bm bx cs s s' w V) (hb : Below V.heap.size V W) : PairX B bm bx cs s s' w W := by
  obtain ⟨R, R', C, C', h, h1, h2, h3⟩ := h
  exact ⟨R, R', C, C', h.over hb, h1, h2, h3.below hb h3.lt⟩
theorem PairX.does1 (h : PairX B bm bx cs s s' w V) (hi : Inv s) (x : Fr) : Calls Try.prog 10 #[.pointer (some ⟨B, 0, none⟩), x.val] V fun e W' => e = .returned (.int .i64 (doesK s x).2) ∧ PairX B bm bx cs (doesK s x).1 s' w W' := by
  obtain ⟨R, R', C, C', ⟨h1, h2, h3, h4, h5, h6⟩, n1, n2, n3⟩ := h
  refine (does_any B B s x R C V hi h1 h5).mono fun e W' ⟨he, R1, C1, k1, k2⟩ => ⟨he, R1, R', C1, C', ⟨k1, h2.same fun b hb => k2.block b (h2.blocks b hb).2 fun hn => h3 b hn hb, fun b hb hn => ?_, h4.trans (k2.below h1 h5), Nat.le_trans h5 k2.size, h6⟩, fun hn => ?_, n2, (k2.block bx n3.lt n1).trans n3⟩
  · rcases k2.fresh b hb with h7 | h7
    · exact h3 b h7 hn
    · have := (h2.blocks b hn).2
      omega
  · rcases k2.fresh bx hn with h7 | h7
    · exact n1 h7
    · have := n3.lt
      omega
theorem PairX.does2 (h : PairX B bm bx cs s s' w V) (hi : Inv s') (x : Fr) : Calls Try.prog 20 #[.pointer (some ⟨bm, 0, none⟩), x.val] V fun e W' => e = .returned (.int .i64 (doesK s' x).2) ∧ PairX B bm bx cs s (doesK s' x).1 w W' := by
  obtain ⟨R, R', C, C', ⟨h1, h2, h3, h4, h5, h6⟩, n1, n2, n3⟩ := h
  have hz := Nat.le_of_lt h2.bk.lt
  refine (D.does_any bm bm s' x R' C' V hi h2 hz).mono fun e W' ⟨he, R1, C1, k1, k2⟩ => ⟨he, R, R1, C, C1, ⟨h1.same fun b hb => k2.block b (h1.blocks b hb).2 (h3 b hb), k1, fun b hb hn => ?_, h4.trans ((k2.below h2 hz).mono h6), Nat.le_trans h5 k2.size, h6⟩, n1, fun hn => ?_, (k2.block bx n3.lt n2).trans n3⟩
  · rcases k2.fresh b hn with h7 | h7
    · exact h3 b hb h7
    · have := (h1.blocks b hb).2
      omega
  · rcases k2.fresh bx hn with h7 | h7
    · exact n2 h7
    · have := n3.lt
      omega
end

/-! ### A nil link -/
theorem end_nil (who : Int) (w : World) : Calls Try.prog 25 #[.pointer none, .int .i64 who] w fun e w' => e = .returned (.bool false) ∧ w' = w := by
  go_enter Try.func25, Try.ntmps25
  go_wp2
  go_ret
  exact ⟨rfl, rfl⟩

set_option maxHeartbeats 1000000 in
theorem send_nil (who : Int) (m : ByteArray) (w : World) : Calls Try.prog 14 #[.pointer none, .int .i64 who, .string m] w fun e w' => e = .returned (.int .i64 1) ∧ w' = w := by
  go_enter Try.func14, Try.ntmps14
  go_wp2_with fail
  refine (end_nil _ w).mono ?_
  rintro e w' ⟨rfl, hw'⟩
  rw [hw']
  clear hw' w'
  go_wp2
  go_ret
  exact ⟨rfl, rfl⟩

set_option maxHeartbeats 1000000 in
theorem tick_nil (who : Int) (w : World) : Calls Try.prog 23 #[.pointer none, .int .i64 who] w fun e w' => e = .returned (.int .i64 1) ∧ w' = w := by
  go_enter Try.func23, Try.ntmps23
  go_wp2_with fail
  refine (end_nil _ w).mono ?_
  rintro e w' ⟨rfl, hw'⟩
  rw [hw']
  clear hw' w'
  go_wp2
  go_ret
  exact ⟨rfl, rfl⟩

set_option maxHeartbeats 1000000 in
theorem comez_nil (who i : Int) (keep : Bool) (w : World) : Calls Try.prog 16 #[.pointer none, .int .i64 who, .int .i64 i, .bool keep] w fun e w' => e = .returned (.int .i64 1) ∧ w' = w := by
  go_enter Try.func16, Try.ntmps16
  go_wp2_with fail
  refine (end_nil _ w).mono ?_
  rintro e w' ⟨rfl, hw'⟩
  rw [hw']
  clear hw' w'
  go_wp2
  go_ret
  exact ⟨rfl, rfl⟩

set_option maxHeartbeats 1000000 in
theorem lose_nil (who i : Int) (w : World) : Calls Try.prog 24 #[.pointer none, .int .i64 who, .int .i64 i] w fun e w' => e = .returned (.int .i64 1) ∧ w' = w := by
  go_enter Try.func24, Try.ntmps24
  go_wp2_with fail
  refine (end_nil _ w).mono ?_
  rintro e w' ⟨rfl, hw'⟩
  rw [hw']
  clear hw' w'
  go_wp2
  go_ret
  exact ⟨rfl, rfl⟩

set_option maxHeartbeats 1000000 in
theorem got_nil (who : Int) (w : World) : Calls Try.prog 11 #[.pointer none, .int .i64 who] w fun e w' => e = .returned (.slice none 0 0) ∧ w' = w := by
  go_enter Try.func11, Try.ntmps11
  go_wp2_with fail
  refine (end_nil _ w).mono ?_
  rintro e w' ⟨rfl, hw'⟩
  rw [hw']
  clear hw' w'
  go_wp2
  go_ret
  exact ⟨rfl, rfl⟩

set_option maxHeartbeats 1000000 in
theorem under_nil (who : Int) (w : World) : Calls Try.prog 15 #[.pointer none, .int .i64 who] w fun e w' => e = .returned (.slice none 0 0) ∧ w' = w := by
  go_enter Try.func15, Try.ntmps15
  go_wp2_with fail
  refine (end_nil _ w).mono ?_
  rintro e w' ⟨rfl, hw'⟩
  rw [hw']
  clear hw' w'
  go_wp2
  go_ret
  exact ⟨rfl, rfl⟩

set_option maxHeartbeats 1000000 in
theorem side_nil (who : Int) (w : World) : Calls Try.prog 12 #[.pointer none, .int .i64 who] w fun e w' => e = .returned (.agg #[.slice none 0 0, .int .i64 0, .int .i64 0]) ∧ Below w.heap.size w w' := by
  go_enter Try.func12, Try.ntmps12
  go_wp2_with fail
  refine (end_nil _ _).mono ?_
  rintro e w' ⟨rfl, hw'⟩
  rw [hw']
  clear hw' w'
  go_wp2
  refine bodyPost_ret (v := .agg #[.slice none 0 0, .int .i64 0, .int .i64 0]) (by simp [results, Try.results12, go_sem]) rfl ⟨rfl, ?_⟩
  exact (Below.refl _ w).alloc (Nat.le_refl _) _
theorem open_nil (w : World) : Calls Try.prog 17 #[.pointer none] w fun e w' => e = .returned (.int .i64 0) ∧ w' = w := by
  go_enter Try.func17, Try.ntmps17
  go_wp2
  go_ret
  exact ⟨rfl, rfl⟩
set_option maxHeartbeats 2000000 in
theorem all_nil (w : World) : Calls Try.prog 37 #[.pointer none] w fun e w' => e = .returned (.tuple #[]) ∧ w' = w := by
  go_enter Try.func37, Try.ntmps37
  go_wp2
  go_step3
  go_wp2
  go_step3
  go_wp2
  go_loopw [3] (fun _ wx => wx = w) (fun _ _ => 0)
  case atStart => rfl
  case round =>
    subst hrel
    go_wp2
    go_loopw [3] (fun s3 wy => wy = wr ∧ (s3 = .int .i64 0 ∨ s3 = .int .i64 1 ∨ s3 = .int .i64 2)) (fun s3 _ => 2 - (intOf s3).toNat)
    case atStart => exact ⟨rfl, .inl rfl⟩
    case round =>
      obtain ⟨hw, h3⟩ := hrel
      subst hw
      rcases h3 with rfl | rfl | rfl
      · go_wp2_with fail
        refine (comez_nil _ _ _ _).mono ?_
        rintro e w' ⟨rfl, hw'⟩
        rw [hw']
        clear hw' w'
        go_wp2_with fail
        go_roundw
        case rel => exact ⟨by trivial, .inr (.inl rfl)⟩
        case measure => simp [intOf]
      · go_wp2_with fail
        refine (comez_nil _ _ _ _).mono ?_
        rintro e w' ⟨rfl, hw'⟩
        rw [hw']
        clear hw' w'
        go_wp2_with fail
        go_roundw
        case rel => exact ⟨by trivial, .inr (.inr rfl)⟩
        case measure => simp [intOf]
      · go_wp2_with fail
        try rw [Exit.noGoto_ret]
        exact bodyPost_ret (v := .tuple #[]) (by simp [results, Try.results37, go_sem]) rfl ⟨rfl, rfl⟩
set_option maxHeartbeats 2000000 in
theorem round_nil (w : World) : Calls Try.prog 22 #[.pointer none] w fun e w' => e = .returned (.tuple #[]) ∧ w' = w := by
  go_enter Try.func22, Try.ntmps22
  go_wp2_with fail
  refine (all_nil w).mono ?_
  rintro e w' ⟨rfl, hw'⟩
  rw [hw']
  clear hw' w'
  go_wp2_with fail
  go_loopw [5] (fun s5 wy => wy = w ∧ (s5 = .int .i64 0 ∨ s5 = .int .i64 1 ∨ s5 = .int .i64 2)) (fun s5 _ => 2 - (intOf s5).toNat)
  case atStart => exact ⟨rfl, .inl rfl⟩
  case round =>
    obtain ⟨hw, h3⟩ := hrel
    subst hw
    rcases h3 with rfl | rfl | rfl
    · go_wp2_with fail
      refine (tick_nil _ _).mono ?_
      rintro e w' ⟨rfl, hw'⟩
      rw [hw']
      clear hw' w'
      go_wp2_with fail
      go_roundw
      case rel => exact ⟨by trivial, .inr (.inl rfl)⟩
      case measure => simp [intOf]
    · go_wp2_with fail
      refine (tick_nil _ _).mono ?_
      rintro e w' ⟨rfl, hw'⟩
      rw [hw']
      clear hw' w'
      go_wp2_with fail
      go_roundw
      case rel => exact ⟨by trivial, .inr (.inr rfl)⟩
      case measure => simp [intOf]
    · go_wp2_with fail
      refine (all_nil _).mono ?_
      rintro e w' ⟨rfl, hw'⟩
      rw [hw']
      clear hw' w'
      go_wp2_with fail
      exact bodyPost_end (results_none rfl _ _ _) rfl ⟨rfl, rfl⟩

end Go.Proofs.Ytnbndhmdfheikaa

/- Walk of LinkDoes. By gen_dw.py. -/
namespace Go.Proofs.Ytnbndhmdfheikaa
open Go.RowKit

set_option maxRecDepth 1000000 in
set_option maxHeartbeats 16000000 in
theorem does_walk (A0 : Option Addr) (N c0 : Nat) (list : List Fr) (w : World) (hnm : N ≤ maxLen) (hr : Rd w w.heap.size 4 A0 N (frs list)) :
    Calls Try.prog 6 #[.slice A0 N c0] w fun e w' => e = .returned (.bool true) ∧ Below w.heap.size w w' := by
  have hN : list.length = N := by have := hr.1; rw [frs_len] at this; omega
  have HR := Lib.hid hr
  have HNN := Lib.hid hN
  clear hr hN
  unfold maxLen at hnm
  go_enter Try.func6, Try.ntmps6
  go_wp2_with fail
  refine (wakes_any w).mono ?_
  rintro e w1 ⟨rfl, hb1⟩
  have HB1 := Lib.hid hb1
  clear hb1
  have hz1 : w.heap.size ≤ w1.heap.size := HB1.out.size
  by_cases h200 : 200 < N
  · have i0 : (200 : Int) < (N : Int) := by omega
    go_wp2
    go_ret
    exact ⟨rfl, HB1.out⟩
  have i0 : ¬ ((200 : Int) < (N : Int)) := by omega
  go_wp2_with fail
  refine (new_any w1).mono ?_
  rintro e w2 ⟨rfl, hl2, hb2⟩
  obtain ⟨w3, hw3⟩ : ∃ w3, w3 = w2.alloc (.cells #[.slice none 0 0, .int .i64 0, .int .i64 0, .slice none 0 0, .int .i64 0, .int .i64 0, .slice none 0 0, .slice none 0 0, .slice none 0 0, .slice none 0 0] 52) := ⟨_, rfl⟩
  have hb3 : Below w2.heap.size w2 w3 := by rw [hw3]; exact (Below.refl _ w2).alloc (Nat.le_refl _) _
  have HP0 : Hid (PairAt w1.heap.size w2.heap.size st0 st0 (fun _ => none) (fun _ => none) (fun _ => 0) (fun _ => 0) w1 w3) := by
    refine ⟨hl2.over hb3, by rw [hw3]; exact D.LinkAt.new w2, fun b hb hn => ?_, hb2.trans (hb3.mono hb2.size), Nat.le_trans hb2.size hb3.size, hb2.size⟩
    rcases hb with rfl | ⟨_, _, _, hp, _⟩
    · rcases hn with e | ⟨_, _, _, hp, _⟩
      · have := hl2.bk.lt
        omega
      · cases hp
    · cases hp
  obtain ⟨B, hB⟩ : ∃ B, B = w1.heap.size := ⟨_, rfl⟩
  obtain ⟨bm, hbm⟩ : ∃ bm, bm = w2.heap.size := ⟨_, rfl⟩
  have HW3 := Lib.hid hw3
  clear hl2 hb2 hb3 hw3
  rw [← hB, ← hbm] at HP0
  rw [← hB] at hz1
  rw [← hB]
  clear hB
  have HBM := Lib.hid hbm
  clear hbm
  go_upto_region 6 with (fail)
  rw [← HW3.out, ← HBM.out]
  clear HW3 HBM
  go_upto_region 7 with (fail)
  go_loopw [19] (fun v19 wr => ∃ k : Nat, k ≤ N ∧ v19 = .int .i64 k ∧ ∃ st, Inv st ∧ Pair B bm st st w1 wr) (fun v19 _ => N - (intOf v19).toNat)
  case atStart => exact ⟨0, Nat.zero_le _, rfl, st0, Inv.start, _, _, _, _, HP0.out⟩
  case round =>
    obtain ⟨k, hk, rfl, st, hi, hp⟩ := hrel
    rename World => V
    have HI := Lib.hid hi
    have HS := Lib.hid hp
    have HB : Hid (Below w.heap.size w V) := by obtain ⟨_, _, _, _, h⟩ := hp; exact HB1.out.trans (h.2.2.2.1.mono hz1)
    clear hi hp HP0
    by_cases hlt : k < N
    · have hlt' : k < list.length := by have := HNN.out; omega
      obtain ⟨a, rfl, _, a0, a1, a2, a3⟩ := (HR.out.below HB.out).frame hlt'
      have i1 : (0 : Int) ≤ (k : Int) := by omega
      have i2 : (k : Int) < (N : Int) := by omega
      generalize hx : list[k] = x at *
      clear hx
      obtain ⟨V2, hV2⟩ : ∃ V2, V2 = V.alloc (.cells #[.int .i64 x.kind, .int .i64 x.num, .int .i64 x.taken, .string x.body] 27) := ⟨_, rfl⟩
      have hbk : Bk V2 V.heap.size 27 #[.int .i64 x.kind, .int .i64 x.num, .int .i64 x.taken, .string x.body] := by rw [hV2]; exact Bk.new _ _ _
      obtain ⟨R, R', C, C', hpa⟩ := HS.out
      have hbmV := hpa.2.1.bk.lt
      obtain ⟨bx, hbx⟩ : ∃ bx, bx = V.heap.size := ⟨_, rfl⟩
      obtain ⟨st3, hst3⟩ : ∃ st3, st3 = (doesK st x).1 := ⟨_, rfl⟩
      obtain ⟨er, her⟩ : ∃ er, er = (doesK st x).2 := ⟨_, rfl⟩
      obtain ⟨cs, hcs⟩ : ∃ cs : Array Value, cs = #[.int .i64 x.kind, .int .i64 x.num, .int .i64 x.taken, .string x.body] := ⟨_, rfl⟩
      have hpx0 : PairX B bm bx cs st st w1 V2 :=
        ⟨R, R', C, C', hpa.over (by rw [hV2]; exact (Below.refl _ V).alloc (Nat.le_refl _) _), fun hi => by have := (hpa.1.blocks _ hi).2; omega, fun hi => by have := (hpa.2.1.blocks _ hi).2; omega, by rw [hbx, hcs]; exact hbk⟩
      have HPX0 := Lib.hid (hpx0.over ((Below.refl _ V2).drew))
      have HX4 : Hid (∀ s s' W, PairX B bm bx cs s s' w1 W → (fun V => V.cell? ⟨bx, 0, none⟩ = some (.int .i64 x.kind) ∧ V.cell? ⟨bx, 1, none⟩ = some (.int .i64 x.num) ∧ V.cell? ⟨bx, 2, none⟩ = some (.int .i64 x.taken) ∧ V.cell? ⟨bx, 3, none⟩ = some (.string x.body)) W) := fun s s' W h => by
        have a := h.bk
        rw [hcs] at a
        have a := a.four
        exact ⟨a.1, a.2.1, a.2.2.1, a.2.2.2.1⟩
      have HV2 := Lib.hid hV2
      clear hV2 hpa hpx0 hbk hcs
      have hi3 := HI.out.does x
      have HD1 : Hid (Calls Try.prog 10 #[.pointer (some ⟨B, 0, none⟩), .agg #[.int .i64 x.kind, .int .i64 x.num, .int .i64 x.taken, .string x.body]] V2.drew fun e W' => e = .returned (.int .i64 er) ∧ PairX B bm bx cs st3 st w1 W') := by
        rw [hst3, her]
        exact HPX0.out.does1 HI.out x
      have HD2 : Hid (∀ V, PairX B bm bx cs st3 st w1 V → Calls Try.prog 20 #[.pointer (some ⟨bm, 0, none⟩), .agg #[.int .i64 x.kind, .int .i64 x.num, .int .i64 x.taken, .string x.body]] V fun e W' => e = .returned (.int .i64 er) ∧ PairX B bm bx cs st3 st3 w1 W') := fun V h => by
        have := h.does2 HI.out x
        rw [← hst3, ← her] at this
        exact this
      rw [← hst3] at hi3
      have HI3 := Lib.hid hi3
      have HD3 : Hid (∀ V, PairX B bm bx cs st3 st3 w1 V → Calls Try.prog 17 #[.pointer (some ⟨B, 0, none⟩)] V fun e W' => e = .returned (.int .i64 (openK st3)) ∧ PairX B bm bx cs st3 st3 w1 W') := fun V h => by
        have h0 := h
        obtain ⟨_, _, _, _, h, _⟩ := h
        have g0 := (good_parts HI3.out.1.half.good).2.2.2
        have g1 := (good_parts HI3.out.2.half.good).2.2.2
        have s0 := HI3.out.1.sent
        have s1 := HI3.out.2.sent
        exact (open_any B B st3 _ _ V h.1 (by omega) (by omega) ⟨g0.1, g0.2.1⟩ ⟨g1.1, g1.2.1⟩).mono fun _ _ ⟨h1, h2⟩ => ⟨h1, h0.over h2⟩
      have HD4 : Hid (∀ V, PairX B bm bx cs st3 st3 w1 V → Calls Try.prog 21 #[.pointer (some ⟨bm, 0, none⟩)] V fun e W' => e = .returned (.int .i64 (openK st3)) ∧ PairX B bm bx cs st3 st3 w1 W') := fun V h => by
        have h0 := h
        obtain ⟨_, _, _, _, h, _⟩ := h
        exact (D.open_any bm bm st3 _ _ V HI3.out h.2.1).mono fun _ _ ⟨h1, h2⟩ => ⟨h1, h0.over h2⟩
      go_upto_region 9 with (fail)
      rw [← HV2.out, ← hbx]
      clear HV2 a0 a1 a2 a3 hi3 hst3 her hbx HS
      obtain ⟨oK, hoK⟩ : ∃ oK, oK = openK st3 := ⟨_, rfl⟩
      rw [← hoK] at HD3 HD4
      clear hoK
      have e1 : (er != er) = false := by simp
      have e2 : (oK != oK) = false := by simp
      have HW0 : Hid ((fun V => V.cell? ⟨bx, 0, none⟩ = some (.int .i64 x.kind) ∧ V.cell? ⟨bx, 1, none⟩ = some (.int .i64 x.num) ∧ V.cell? ⟨bx, 2, none⟩ = some (.int .i64 x.taken) ∧ V.cell? ⟨bx, 3, none⟩ = some (.string x.body)) V2.drew) := HX4.out _ _ _ HPX0.out
      go_region_held3 (fun V => V.cell? ⟨bx, 0, none⟩ = some (.int .i64 x.kind) ∧ V.cell? ⟨bx, 1, none⟩ = some (.int .i64 x.num) ∧ V.cell? ⟨bx, 2, none⟩ = some (.int .i64 x.taken) ∧ V.cell? ⟨bx, 3, none⟩ = some (.string x.body))
        (first
          | with_reducible assumption
          | with_reducible exact HWS.out
          | with_reducible exact HW0.out)
        (first
          | (go_at_call 10; refine HD1.out.mono ?_; rintro e W3 ⟨rfl, hp3⟩; have HP3 := Lib.hid hp3; have HWS : Hid ((fun V => V.cell? ⟨bx, 0, none⟩ = some (.int .i64 x.kind) ∧ V.cell? ⟨bx, 1, none⟩ = some (.int .i64 x.num) ∧ V.cell? ⟨bx, 2, none⟩ = some (.int .i64 x.taken) ∧ V.cell? ⟨bx, 3, none⟩ = some (.string x.body)) W3) := HX4.out _ _ _ hp3; clear hp3; dsimp only)
          | (go_at_call 20; refine (HD2.out _ HP3.out).mono ?_; rintro e W4 ⟨rfl, hp4⟩; have HP4 := Lib.hid hp4; have HWS : Hid ((fun V => V.cell? ⟨bx, 0, none⟩ = some (.int .i64 x.kind) ∧ V.cell? ⟨bx, 1, none⟩ = some (.int .i64 x.num) ∧ V.cell? ⟨bx, 2, none⟩ = some (.int .i64 x.taken) ∧ V.cell? ⟨bx, 3, none⟩ = some (.string x.body)) W4) := HX4.out _ _ _ hp4; clear hp4; dsimp only)
          | (go_at_call 17; refine (HD3.out _ HP4.out).mono ?_; rintro e W4 ⟨rfl, hp4⟩; have HP4 := Lib.hid hp4; have HWS : Hid ((fun V => V.cell? ⟨bx, 0, none⟩ = some (.int .i64 x.kind) ∧ V.cell? ⟨bx, 1, none⟩ = some (.int .i64 x.num) ∧ V.cell? ⟨bx, 2, none⟩ = some (.int .i64 x.taken) ∧ V.cell? ⟨bx, 3, none⟩ = some (.string x.body)) W4) := HX4.out _ _ _ hp4; clear hp4; dsimp only)
          | (go_at_call 21; refine (HD4.out _ HP4.out).mono ?_; rintro e W4 ⟨rfl, hp4⟩; have HP4 := Lib.hid hp4; have HWS : Hid ((fun V => V.cell? ⟨bx, 0, none⟩ = some (.int .i64 x.kind) ∧ V.cell? ⟨bx, 1, none⟩ = some (.int .i64 x.num) ∧ V.cell? ⟨bx, 2, none⟩ = some (.int .i64 x.taken) ∧ V.cell? ⟨bx, 3, none⟩ = some (.string x.body)) W4) := HX4.out _ _ _ hp4; clear hp4; dsimp only))
      have HPP : Hid (Pair B bm st3 st3 w1 W4) := HP4.out.pair
      clear HP3 HP4 HPX0 HX4 HD1 HD2 HD3 HD4 HWS HW0 HI e1 e2
      go_upto_region 12 with (fail)
      go_loopw [7] (fun v7 wr => ∃ who : Nat, who ≤ 2 ∧ v7 = .int .i64 who ∧ Pair B bm st3 st3 w1 wr) (fun v7 _ => 2 - (intOf v7).toNat)
      case atStart => exact ⟨0, by omega, rfl, HPP.out⟩
      case round =>
        clear HPP
        obtain ⟨who, hwho, rfl, hs⟩ := hrel
        rename World => Z
        have HP := Lib.hid hs
        clear hs
        have hcase : who = 0 ∨ who = 1 ∨ who = 2 := by omega
        clear hwho
        rcases hcase with hw0 | hw1 | hw2
        · subst hw0
          obtain ⟨R, R', C, C', hp⟩ := HP.out
          have HPA := Lib.hid hp
          obtain ⟨⟨ss, tk, kn⟩, hs⟩ : ∃ s, s = st3.e 0 := ⟨_, rfl⟩
          obtain ⟨u, hu⟩ : ∃ u, u = st3.u 0 := ⟨_, rfl⟩
          obtain ⟨gl, hgl⟩ : ∃ gl, gl = st3.g 0 := ⟨_, rfl⟩
          have hsl : ss.length ≤ 256 := by have := HI3.out.1.sent; rw [← hs] at this; exact this
          have hulb : u.length ≤ 4096 := by rw [hu]; exact HI3.out.fits.u0
          have hglb : gl.length ≤ 1099511627776 := by rw [hgl]; exact HI3.out.fits.g0
          have HL12 : Hid (∀ V, Below Z.heap.size Z V → Calls Try.prog 12 #[.pointer (some ⟨B, 0, none⟩), .int .i64 0] V fun e W' => ∃ A c, e = .returned (.agg #[.slice A ss.length c, .int .i64 tk, .int .i64 kn]) ∧ Rd W' W'.heap.size 1 A ss.length (ss.map Value.string) ∧ Below V.heap.size V W') := fun V hV => by
            have h := side_0 B B st3 R C V (HPA.out.1.over hV) (by rw [← hs]; show ss.length * 16 ≤ _; omega)
            rw [← hs] at h
            exact h.mono fun _ _ ⟨A, c, h1, _, _, h2, h3⟩ => ⟨A, c, h1, Rd.of_own h2, h3⟩
          have HL15 : Hid (∀ V, Below Z.heap.size Z V → Calls Try.prog 15 #[.pointer (some ⟨B, 0, none⟩), .int .i64 0] V fun e W' => ∃ A c, e = .returned (.slice A u.length c) ∧ Rd W' W'.heap.size 4 A u.length (frs u) ∧ Below V.heap.size V W') := fun V hV => by
            have h := under_0 B B st3 R C V (HPA.out.1.over hV) HI3.out.fits.u0
            rw [← hu] at h
            exact h.mono fun _ _ ⟨A, c, h1, _, _, h2, h3⟩ => ⟨A, c, h1, Rd.of_own h2, h3⟩
          have HL11 : Hid (∀ V, Below Z.heap.size Z V → Calls Try.prog 11 #[.pointer (some ⟨B, 0, none⟩), .int .i64 0] V fun e W' => ∃ A c, e = .returned (.slice A gl.length c) ∧ Rd W' W'.heap.size 1 A gl.length (gl.map Value.string) ∧ Below V.heap.size V W') := fun V hV => by
            have h := got_0 B B st3 R C V (HPA.out.1.over hV) (by rw [← hgl]; omega)
            rw [← hgl] at h
            exact h.mono fun _ _ ⟨A, c, h1, _, _, h2, h3⟩ => ⟨A, c, h1, Rd.of_own h2, h3⟩
          have HRs : Hid (Rd Z Z.heap.size 1 (R' 0) ss.length (ss.map Value.string)) := by
            have h := HPA.out.2.1.own 0 (by omega)
            simp only [rowTy, rowSz, rowLn, rowXs, ← hs] at h
            exact Rd.of_own h
          have HRu : Hid (Rd Z Z.heap.size 4 (R' 2) u.length (frs u)) := by
            have h := HPA.out.2.1.own 2 (by omega)
            simp only [rowTy, rowSz, rowLn, rowXs, ← hu] at h
            exact Rd.of_own h
          have HRg : Hid (Rd Z Z.heap.size 1 (R' 4) gl.length (gl.map Value.string)) := by
            have h := HPA.out.2.1.own 4 (by omega)
            simp only [rowTy, rowSz, rowLn, rowXs, ← hgl] at h
            exact Rd.of_own h
          have H18 : Hid (∀ V A c, Below Z.heap.size Z V → Rd V V.heap.size 1 A ss.length (ss.map Value.string) → Calls Try.prog 18 #[.agg #[.slice A ss.length c, .int .i64 tk, .int .i64 kn], .agg #[.slice (R' 0) ss.length (C' 0), .int .i64 tk, .int .i64 kn]] V fun e W' => e = .returned (.bool true) ∧ Below V.heap.size V W') := fun V A c hV hA =>
            same_any A (R' 0) c (C' 0) ⟨ss, tk, kn⟩ V (by unfold maxLen; show ss.length ≤ _; omega) hA ((HRs.out.below hV).mono hV.size)
          have H19 : Hid (∀ V A c, Below Z.heap.size Z V → Rd V V.heap.size 4 A u.length (frs u) → Calls Try.prog 19 #[.slice A u.length c, .slice (R' 2) u.length (C' 2)] V fun e W' => e = .returned (.bool true) ∧ Below V.heap.size V W') := fun V A c hV hA =>
            (sameFrames_any A (R' 2) u.length c (C' 2) u V rfl (by unfold maxLen; omega) hA ((HRu.out.below hV).mono hV.size)).mono fun _ _ ⟨h1, m, h2⟩ => ⟨h1, by rw [h2]; exact below_drewN (Below.refl _ V) m⟩
          have H13 : Hid (∀ V A c, Below Z.heap.size Z V → Rd V V.heap.size 1 A gl.length (gl.map Value.string) → Calls Try.prog 13 #[.slice A gl.length c, .slice (R' 4) gl.length (C' 4)] V fun e W' => e = .returned (.bool true) ∧ Below V.heap.size V W') := fun V A c hV hA =>
            (sameTexts_any A (R' 4) gl.length c (C' 4) gl V rfl (by unfold maxLen; omega) hA ((HRg.out.below hV).mono hV.size)).mono fun _ _ ⟨h1, m, h2⟩ => ⟨h1, by rw [h2]; exact below_drewN (Below.refl _ V) m⟩
          have HSZ : Hid (∀ V, Below Z.heap.size Z V → (fun V => Below Z.heap.size Z V ∧ V.cell? ⟨bm, 0, none⟩ = some (.slice (R' 0) ss.length (C' 0)) ∧ V.cell? ⟨bm, 1, none⟩ = some (.int .i64 tk) ∧ V.cell? ⟨bm, 2, none⟩ = some (.int .i64 kn) ∧ V.cell? ⟨bm, 6, none⟩ = some (.slice (R' 2) u.length (C' 2)) ∧ V.cell? ⟨bm, 8, none⟩ = some (.slice (R' 4) gl.length (C' 4))) V) := fun V hB => by
            have a := HPA.out.2.1.bk.below hB HPA.out.2.1.bk.lt
            have e : lkCells st3 R' C' = lkCells st3 R' C' := rfl
            refine ⟨hB, ?_, ?_, ?_, ?_, ?_⟩ <;> rw [a.cell] <;> simp [lkCells, ← hs, ← hu, ← hgl]
          have hbmZ := HPA.out.2.1.bk.lt
          clear hs hu hgl hp
          go_upto_region 14 with (fail)
          go_region_held3 (fun V => Below Z.heap.size Z V ∧ V.cell? ⟨bm, 0, none⟩ = some (.slice (R' 0) ss.length (C' 0)) ∧ V.cell? ⟨bm, 1, none⟩ = some (.int .i64 tk) ∧ V.cell? ⟨bm, 2, none⟩ = some (.int .i64 kn) ∧ V.cell? ⟨bm, 6, none⟩ = some (.slice (R' 2) u.length (C' 2)) ∧ V.cell? ⟨bm, 8, none⟩ = some (.slice (R' 4) gl.length (C' 4)))
            (first
              | with_reducible assumption
              | (refine HSZ.out _ ?_; first | with_reducible exact HW2.out | with_reducible exact (Below.refl _ _).drew))
            (first
              | (go_at_call 12; obtain ⟨hB, -⟩ := ‹Below Z.heap.size Z _ ∧ _›; refine (HL12.out _ hB).mono ?_; rintro e wq ⟨Aq, cq, rfl, hr9, hb9⟩; have HW2 : Hid (Below Z.heap.size Z wq) := hB.trans (hb9.mono hB.size); have HR2 := Lib.hid hr9; clear hB hb9 hr9; dsimp only)
              | (go_at_call 15; obtain ⟨hB, -⟩ := ‹Below Z.heap.size Z _ ∧ _›; refine (HL15.out _ hB).mono ?_; rintro e wq ⟨Aq, cq, rfl, hr9, hb9⟩; have HW2 : Hid (Below Z.heap.size Z wq) := hB.trans (hb9.mono hB.size); have HR2 := Lib.hid hr9; clear hB hb9 hr9; dsimp only)
              | (go_at_call 11; obtain ⟨hB, -⟩ := ‹Below Z.heap.size Z _ ∧ _›; refine (HL11.out _ hB).mono ?_; rintro e wq ⟨Aq, cq, rfl, hr9, hb9⟩; have HW2 : Hid (Below Z.heap.size Z wq) := hB.trans (hb9.mono hB.size); have HR2 := Lib.hid hr9; clear hB hb9 hr9; dsimp only)
              | (go_at_call 18; obtain ⟨hB, -⟩ := ‹Below Z.heap.size Z _ ∧ _›; refine (H18.out _ _ _ hB HR2.out).mono ?_; rintro e wq ⟨rfl, hb9⟩; have HW2 : Hid (Below Z.heap.size Z wq) := hB.trans (hb9.mono hB.size); clear hB hb9; dsimp only)
              | (go_at_call 19; obtain ⟨hB, -⟩ := ‹Below Z.heap.size Z _ ∧ _›; refine (H19.out _ _ _ hB HR2.out).mono ?_; rintro e wq ⟨rfl, hb9⟩; have HW2 : Hid (Below Z.heap.size Z wq) := hB.trans (hb9.mono hB.size); clear hB hb9; dsimp only)
              | (go_at_call 13; obtain ⟨hB, -⟩ := ‹Below Z.heap.size Z _ ∧ _›; refine (H13.out _ _ _ hB HR2.out).mono ?_; rintro e wq ⟨rfl, hb9⟩; have HW2 : Hid (Below Z.heap.size Z wq) := hB.trans (hb9.mono hB.size); clear hB hb9; dsimp only))
          have HPN := Lib.hid (HP.out.over HW2.out)
          clear HSZ HL12 HL15 HL11 H18 H19 H13 HRs HRu HRg HP HPA
          go_wp2
          go_roundw
          case rel => exact ⟨0 + 1, by omega, by go_num, HPN.out⟩
          case measure => simp [intOf]
        · subst hw1
          obtain ⟨R, R', C, C', hp⟩ := HP.out
          have HPA := Lib.hid hp
          obtain ⟨⟨ss, tk, kn⟩, hs⟩ : ∃ s, s = st3.e 1 := ⟨_, rfl⟩
          obtain ⟨u, hu⟩ : ∃ u, u = st3.u 1 := ⟨_, rfl⟩
          obtain ⟨gl, hgl⟩ : ∃ gl, gl = st3.g 1 := ⟨_, rfl⟩
          have hsl : ss.length ≤ 256 := by have := HI3.out.2.sent; rw [← hs] at this; exact this
          have hulb : u.length ≤ 4096 := by rw [hu]; exact HI3.out.fits.u1
          have hglb : gl.length ≤ 1099511627776 := by rw [hgl]; exact HI3.out.fits.g1
          have HL12 : Hid (∀ V, Below Z.heap.size Z V → Calls Try.prog 12 #[.pointer (some ⟨B, 0, none⟩), .int .i64 1] V fun e W' => ∃ A c, e = .returned (.agg #[.slice A ss.length c, .int .i64 tk, .int .i64 kn]) ∧ Rd W' W'.heap.size 1 A ss.length (ss.map Value.string) ∧ Below V.heap.size V W') := fun V hV => by
            have h := side_1 B B st3 R C V (HPA.out.1.over hV) (by rw [← hs]; show ss.length * 16 ≤ _; omega)
            rw [← hs] at h
            exact h.mono fun _ _ ⟨A, c, h1, _, _, h2, h3⟩ => ⟨A, c, h1, Rd.of_own h2, h3⟩
          have HL15 : Hid (∀ V, Below Z.heap.size Z V → Calls Try.prog 15 #[.pointer (some ⟨B, 0, none⟩), .int .i64 1] V fun e W' => ∃ A c, e = .returned (.slice A u.length c) ∧ Rd W' W'.heap.size 4 A u.length (frs u) ∧ Below V.heap.size V W') := fun V hV => by
            have h := under_1 B B st3 R C V (HPA.out.1.over hV) HI3.out.fits.u1
            rw [← hu] at h
            exact h.mono fun _ _ ⟨A, c, h1, _, _, h2, h3⟩ => ⟨A, c, h1, Rd.of_own h2, h3⟩
          have HL11 : Hid (∀ V, Below Z.heap.size Z V → Calls Try.prog 11 #[.pointer (some ⟨B, 0, none⟩), .int .i64 1] V fun e W' => ∃ A c, e = .returned (.slice A gl.length c) ∧ Rd W' W'.heap.size 1 A gl.length (gl.map Value.string) ∧ Below V.heap.size V W') := fun V hV => by
            have h := got_1 B B st3 R C V (HPA.out.1.over hV) (by rw [← hgl]; omega)
            rw [← hgl] at h
            exact h.mono fun _ _ ⟨A, c, h1, _, _, h2, h3⟩ => ⟨A, c, h1, Rd.of_own h2, h3⟩
          have HRs : Hid (Rd Z Z.heap.size 1 (R' 1) ss.length (ss.map Value.string)) := by
            have h := HPA.out.2.1.own 1 (by omega)
            simp only [rowTy, rowSz, rowLn, rowXs, ← hs] at h
            exact Rd.of_own h
          have HRu : Hid (Rd Z Z.heap.size 4 (R' 3) u.length (frs u)) := by
            have h := HPA.out.2.1.own 3 (by omega)
            simp only [rowTy, rowSz, rowLn, rowXs, ← hu] at h
            exact Rd.of_own h
          have HRg : Hid (Rd Z Z.heap.size 1 (R' 5) gl.length (gl.map Value.string)) := by
            have h := HPA.out.2.1.own 5 (by omega)
            simp only [rowTy, rowSz, rowLn, rowXs, ← hgl] at h
            exact Rd.of_own h
          have H18 : Hid (∀ V A c, Below Z.heap.size Z V → Rd V V.heap.size 1 A ss.length (ss.map Value.string) → Calls Try.prog 18 #[.agg #[.slice A ss.length c, .int .i64 tk, .int .i64 kn], .agg #[.slice (R' 1) ss.length (C' 1), .int .i64 tk, .int .i64 kn]] V fun e W' => e = .returned (.bool true) ∧ Below V.heap.size V W') := fun V A c hV hA =>
            same_any A (R' 1) c (C' 1) ⟨ss, tk, kn⟩ V (by unfold maxLen; show ss.length ≤ _; omega) hA ((HRs.out.below hV).mono hV.size)
          have H19 : Hid (∀ V A c, Below Z.heap.size Z V → Rd V V.heap.size 4 A u.length (frs u) → Calls Try.prog 19 #[.slice A u.length c, .slice (R' 3) u.length (C' 3)] V fun e W' => e = .returned (.bool true) ∧ Below V.heap.size V W') := fun V A c hV hA =>
            (sameFrames_any A (R' 3) u.length c (C' 3) u V rfl (by unfold maxLen; omega) hA ((HRu.out.below hV).mono hV.size)).mono fun _ _ ⟨h1, m, h2⟩ => ⟨h1, by rw [h2]; exact below_drewN (Below.refl _ V) m⟩
          have H13 : Hid (∀ V A c, Below Z.heap.size Z V → Rd V V.heap.size 1 A gl.length (gl.map Value.string) → Calls Try.prog 13 #[.slice A gl.length c, .slice (R' 5) gl.length (C' 5)] V fun e W' => e = .returned (.bool true) ∧ Below V.heap.size V W') := fun V A c hV hA =>
            (sameTexts_any A (R' 5) gl.length c (C' 5) gl V rfl (by unfold maxLen; omega) hA ((HRg.out.below hV).mono hV.size)).mono fun _ _ ⟨h1, m, h2⟩ => ⟨h1, by rw [h2]; exact below_drewN (Below.refl _ V) m⟩
          have HSZ : Hid (∀ V, Below Z.heap.size Z V → (fun V => Below Z.heap.size Z V ∧ V.cell? ⟨bm, 3, none⟩ = some (.slice (R' 1) ss.length (C' 1)) ∧ V.cell? ⟨bm, 4, none⟩ = some (.int .i64 tk) ∧ V.cell? ⟨bm, 5, none⟩ = some (.int .i64 kn) ∧ V.cell? ⟨bm, 7, none⟩ = some (.slice (R' 3) u.length (C' 3)) ∧ V.cell? ⟨bm, 9, none⟩ = some (.slice (R' 5) gl.length (C' 5))) V) := fun V hB => by
            have a := HPA.out.2.1.bk.below hB HPA.out.2.1.bk.lt
            have e : lkCells st3 R' C' = lkCells st3 R' C' := rfl
            refine ⟨hB, ?_, ?_, ?_, ?_, ?_⟩ <;> rw [a.cell] <;> simp [lkCells, ← hs, ← hu, ← hgl]
          have hbmZ := HPA.out.2.1.bk.lt
          clear hs hu hgl hp
          go_upto_region 14 with (fail)
          go_region_held3 (fun V => Below Z.heap.size Z V ∧ V.cell? ⟨bm, 3, none⟩ = some (.slice (R' 1) ss.length (C' 1)) ∧ V.cell? ⟨bm, 4, none⟩ = some (.int .i64 tk) ∧ V.cell? ⟨bm, 5, none⟩ = some (.int .i64 kn) ∧ V.cell? ⟨bm, 7, none⟩ = some (.slice (R' 3) u.length (C' 3)) ∧ V.cell? ⟨bm, 9, none⟩ = some (.slice (R' 5) gl.length (C' 5)))
            (first
              | with_reducible assumption
              | (refine HSZ.out _ ?_; first | with_reducible exact HW2.out | with_reducible exact (Below.refl _ _).drew))
            (first
              | (go_at_call 12; obtain ⟨hB, -⟩ := ‹Below Z.heap.size Z _ ∧ _›; refine (HL12.out _ hB).mono ?_; rintro e wq ⟨Aq, cq, rfl, hr9, hb9⟩; have HW2 : Hid (Below Z.heap.size Z wq) := hB.trans (hb9.mono hB.size); have HR2 := Lib.hid hr9; clear hB hb9 hr9; dsimp only)
              | (go_at_call 15; obtain ⟨hB, -⟩ := ‹Below Z.heap.size Z _ ∧ _›; refine (HL15.out _ hB).mono ?_; rintro e wq ⟨Aq, cq, rfl, hr9, hb9⟩; have HW2 : Hid (Below Z.heap.size Z wq) := hB.trans (hb9.mono hB.size); have HR2 := Lib.hid hr9; clear hB hb9 hr9; dsimp only)
              | (go_at_call 11; obtain ⟨hB, -⟩ := ‹Below Z.heap.size Z _ ∧ _›; refine (HL11.out _ hB).mono ?_; rintro e wq ⟨Aq, cq, rfl, hr9, hb9⟩; have HW2 : Hid (Below Z.heap.size Z wq) := hB.trans (hb9.mono hB.size); have HR2 := Lib.hid hr9; clear hB hb9 hr9; dsimp only)
              | (go_at_call 18; obtain ⟨hB, -⟩ := ‹Below Z.heap.size Z _ ∧ _›; refine (H18.out _ _ _ hB HR2.out).mono ?_; rintro e wq ⟨rfl, hb9⟩; have HW2 : Hid (Below Z.heap.size Z wq) := hB.trans (hb9.mono hB.size); clear hB hb9; dsimp only)
              | (go_at_call 19; obtain ⟨hB, -⟩ := ‹Below Z.heap.size Z _ ∧ _›; refine (H19.out _ _ _ hB HR2.out).mono ?_; rintro e wq ⟨rfl, hb9⟩; have HW2 : Hid (Below Z.heap.size Z wq) := hB.trans (hb9.mono hB.size); clear hB hb9; dsimp only)
              | (go_at_call 13; obtain ⟨hB, -⟩ := ‹Below Z.heap.size Z _ ∧ _›; refine (H13.out _ _ _ hB HR2.out).mono ?_; rintro e wq ⟨rfl, hb9⟩; have HW2 : Hid (Below Z.heap.size Z wq) := hB.trans (hb9.mono hB.size); clear hB hb9; dsimp only))
          have HPN := Lib.hid (HP.out.over HW2.out)
          clear HSZ HL12 HL15 HL11 H18 H19 H13 HRs HRu HRg HP HPA
          go_wp2
          go_roundw
          case rel => exact ⟨1 + 1, by omega, by go_num, HPN.out⟩
          case measure => simp [intOf]
        · subst hw2
          go_wp2_with fail
          go_roundw
          case rel => exact ⟨k + 1, by omega, by go_num, st3, HI3.out, HP.out⟩
          case measure => simp [intOf]; omega
    · have i3 : ¬ ((k : Int) < (N : Int)) := by omega
      obtain ⟨R, R', C, C', hp⟩ := HS.out
      have H18 : Hid (∀ V, Calls Try.prog 18 #[.agg #[.slice none 0 0, .int .i64 0, .int .i64 0], .agg #[.slice none 0 0, .int .i64 0, .int .i64 0]] V fun e W' => e = .returned (.bool true) ∧ Below V.heap.size V W') := fun V =>
        same_any none none 0 0 ⟨[], 0, 0⟩ V (Nat.zero_le _) (Rd.nil _ _ _ _) (Rd.nil _ _ _ _)
      clear hp
      go_wp2_with fail
      refine (round_nil _).mono ?_
      rintro e w' ⟨rfl, hw'⟩
      rw [hw']
      clear hw' w'
      go_wp2_with fail
      refine (got_no _ _ _ (by omega)).mono ?_
      rintro e w' ⟨rfl, hw'⟩
      rw [hw']
      clear hw' w'
      go_wp2_with fail
      refine (under_no _ _ _ (by omega)).mono ?_
      rintro e w' ⟨rfl, hw'⟩
      rw [hw']
      clear hw' w'
      go_wp2_with fail
      refine (open_nil _).mono ?_
      rintro e w' ⟨rfl, hw'⟩
      rw [hw']
      clear hw' w'
      go_wp2_with fail
      refine (send_nil _ _ _).mono ?_
      rintro e w' ⟨rfl, hw'⟩
      rw [hw']
      clear hw' w'
      go_wp2_with fail
      refine (tick_nil _ _).mono ?_
      rintro e w' ⟨rfl, hw'⟩
      rw [hw']
      clear hw' w'
      go_wp2_with fail
      refine (comez_nil _ _ _ _).mono ?_
      rintro e w' ⟨rfl, hw'⟩
      rw [hw']
      clear hw' w'
      go_wp2_with fail
      refine (lose_nil _ _ _).mono ?_
      rintro e w' ⟨rfl, hw'⟩
      rw [hw']
      clear hw' w'
      go_wp2_with fail
      refine (got_nil _ _).mono ?_
      rintro e w' ⟨rfl, hw'⟩
      rw [hw']
      clear hw' w'
      go_wp2_with fail
      refine (under_nil _ _).mono ?_
      rintro e w' ⟨rfl, hw'⟩
      rw [hw']
      clear hw' w'
      go_wp2_with fail
      refine (side_nil _ _).mono ?_
      rintro e w8 ⟨rfl, hb8⟩
      have HB8 := Lib.hid hb8
      clear hb8
      go_wp2_with fail
      refine (H18.out _).mono ?_
      rintro e w9 ⟨rfl, hb9⟩
      have HB9 := Lib.hid hb9
      clear hb9
      go_wp2
      go_ret
      exact ⟨rfl, HB.out.trans ((HB8.out.trans (HB9.out.mono HB8.out.size)).mono HB.out.size)⟩

end Go.Proofs.Ytnbndhmdfheikaa
