/- does: a move; ends that are none; two lists of texts. By gen_ld.py. -/
import Derived.Test.YtnbndhmdfheikaaLR
import Derived.Test.YtnbndhmdfheikaaLW
import Derived.Test.YtnbndhmdfheikaaLK0t
import Derived.Test.YtnbndhmdfheikaaLK1t
import Derived.Test.YtnbndhmdfheikaaW7
namespace Go.Proofs.Ytnbndhmdfheikaa
open Go.RowKit

set_option maxHeartbeats 1000000 in
theorem sameTexts_any (A B : Option Addr) (n c d : Nat) (l : List ByteArray) (w : World) (hl : l.length = n) (hn : n ≤ maxLen) (ha : Rd w w.heap.size 1 A n (l.map Value.string)) (hb : Rd w w.heap.size 1 B n (l.map Value.string)) :
    Calls Try.prog 13 #[.slice A n c, .slice B n d] w fun e w' => e = .returned (.bool true) ∧ ∃ m, w' = w.drewN m := by
  unfold maxLen at hn
  have HL := Lib.hid hl
  clear hl
  go_enter Try.func13, Try.ntmps13
  go_wp2
  go_loopw [13] (fun i wr => ∃ k : Nat, k ≤ n ∧ i = .int .i64 k ∧ ∃ m, wr = w.drewN m) (fun i _ => n - (intOf i).toNat)
  case atStart => exact ⟨0, Nat.zero_le _, rfl, 0, rfl⟩
  case round =>
    obtain ⟨k, hk, rfl, m, rfl⟩ := hrel
    by_cases hlt : k < n
    · have hlt' : k < l.length := by have := HL.out; omega
      obtain ⟨a, rfl, _, ca⟩ := ha.cell (j := k) (u := .string (l[k])) (by simp)
      obtain ⟨b, rfl, _, cb⟩ := hb.cell (j := k) (u := .string (l[k])) (by simp)
      have i1 : (0 : Int) ≤ (k : Int) := by omega
      have i2 : (k : Int) < (n : Int) := by omega
      have hx : (l[k].toList != l[k].toList) = false := by simp
      go_wp2_with fail
      go_quiet (fail)
      go_wp2
      go_roundw
      case rel => exact ⟨k + 1, by omega, by go_num, _, rfl⟩
      case measure => simp [intOf]; omega
    · go_wp2
      go_ret
      exact ⟨rfl, _, rfl⟩

theorem end_no (b : Nat) (who : Int) (w : World) (h : ¬ (who = 0 ∨ who = 1)) : Calls Try.prog 25 #[.pointer (some ⟨b, 0, none⟩), .int .i64 who] w fun e w' => e = .returned (.bool false) ∧ w' = w := by
  have := end_any b who w
  rwa [decide_eq_false h] at this

set_option maxHeartbeats 1000000 in
theorem send_no (b : Nat) (who : Int) (m : ByteArray) (w : World) (h : ¬ (who = 0 ∨ who = 1)) : Calls Try.prog 14 #[.pointer (some ⟨b, 0, none⟩), .int .i64 who, .string m] w fun e w' => e = .returned (.int .i64 1) ∧ w' = w := by
  have HE := Lib.hid (end_no b who w h)
  clear h
  go_enter Try.func14, Try.ntmps14
  go_wp2_with fail
  refine HE.out.mono ?_
  rintro e w' ⟨rfl, hw'⟩
  rw [hw']
  clear hw' w'
  go_wp2
  go_ret
  exact ⟨rfl, rfl⟩

set_option maxHeartbeats 1000000 in
theorem tick_no (b : Nat) (who : Int) (w : World) (h : ¬ (who = 0 ∨ who = 1)) : Calls Try.prog 23 #[.pointer (some ⟨b, 0, none⟩), .int .i64 who] w fun e w' => e = .returned (.int .i64 1) ∧ w' = w := by
  have HE := Lib.hid (end_no b who w h)
  clear h
  go_enter Try.func23, Try.ntmps23
  go_wp2_with fail
  refine HE.out.mono ?_
  rintro e w' ⟨rfl, hw'⟩
  rw [hw']
  clear hw' w'
  go_wp2
  go_ret
  exact ⟨rfl, rfl⟩

set_option maxHeartbeats 1000000 in
theorem come_no (b : Nat) (who : Int) (i : Int) (keep : Bool) (w : World) (h : ¬ (who = 0 ∨ who = 1)) : Calls Try.prog 16 #[.pointer (some ⟨b, 0, none⟩), .int .i64 who, .int .i64 i, .bool keep] w fun e w' => e = .returned (.int .i64 1) ∧ w' = w := by
  have HE := Lib.hid (end_no b who w h)
  clear h
  go_enter Try.func16, Try.ntmps16
  go_wp2_with fail
  refine HE.out.mono ?_
  rintro e w' ⟨rfl, hw'⟩
  rw [hw']
  clear hw' w'
  go_wp2
  go_ret
  exact ⟨rfl, rfl⟩

set_option maxHeartbeats 1000000 in
theorem lose_no (b : Nat) (who : Int) (i : Int) (w : World) (h : ¬ (who = 0 ∨ who = 1)) : Calls Try.prog 24 #[.pointer (some ⟨b, 0, none⟩), .int .i64 who, .int .i64 i] w fun e w' => e = .returned (.int .i64 1) ∧ w' = w := by
  have HE := Lib.hid (end_no b who w h)
  clear h
  go_enter Try.func24, Try.ntmps24
  go_wp2_with fail
  refine HE.out.mono ?_
  rintro e w' ⟨rfl, hw'⟩
  rw [hw']
  clear hw' w'
  go_wp2
  go_ret
  exact ⟨rfl, rfl⟩

set_option maxHeartbeats 1000000 in
theorem got_no (b : Nat) (who : Int) (w : World) (h : ¬ (who = 0 ∨ who = 1)) : Calls Try.prog 11 #[.pointer (some ⟨b, 0, none⟩), .int .i64 who] w fun e w' => e = .returned (.slice none 0 0) ∧ w' = w := by
  have HE := Lib.hid (end_no b who w h)
  clear h
  go_enter Try.func11, Try.ntmps11
  go_wp2_with fail
  refine HE.out.mono ?_
  rintro e w' ⟨rfl, hw'⟩
  rw [hw']
  clear hw' w'
  go_wp2
  go_ret
  exact ⟨rfl, rfl⟩

set_option maxHeartbeats 1000000 in
theorem under_no (b : Nat) (who : Int) (w : World) (h : ¬ (who = 0 ∨ who = 1)) : Calls Try.prog 15 #[.pointer (some ⟨b, 0, none⟩), .int .i64 who] w fun e w' => e = .returned (.slice none 0 0) ∧ w' = w := by
  have HE := Lib.hid (end_no b who w h)
  clear h
  go_enter Try.func15, Try.ntmps15
  go_wp2_with fail
  refine HE.out.mono ?_
  rintro e w' ⟨rfl, hw'⟩
  rw [hw']
  clear hw' w'
  go_wp2
  go_ret
  exact ⟨rfl, rfl⟩

/-- A move: what is its number, of whom, which frame, which message. -/
def doesK (st : Lk) (x : Fr) : Lk × Int :=
  if x.kind = 0 then (if x.num = 0 ∨ x.num = 1 then sendK st x.num.toNat x.body else (st, 1))
  else if x.kind = 1 then (if x.num = 0 ∨ x.num = 1 then tickK st x.num.toNat else (st, 1))
  else if x.kind = 2 ∨ x.kind = 3 then (if x.num = 0 ∨ x.num = 1 then comeK st x.num.toNat x.taken (decide (x.kind = 3)) else (st, 1))
  else if x.kind = 4 then (if x.num = 0 ∨ x.num = 1 then loseK st x.num.toNat x.taken else (st, 1))
  else if x.kind = 5 then ((roundS FU st).getD st, 0)
  else (st, 0)

theorem Inv.does {st : Lk} (h : Inv st) (x : Fr) : Inv (doesK st x).1 := by
  have hw : x.num = 0 ∨ x.num = 1 → x.num.toNat = 0 ∨ x.num.toNat = 1 := fun h => by omega
  unfold doesK
  split
  · split
    · exact h.send _ (hw ‹_›) _
    · exact h
  split
  · split
    · exact h.tick _ (hw ‹_›)
    · exact h
  split
  · split
    · exact h.come _ (hw ‹_›) _ _
    · exact h
  split
  · split
    · exact h.lose _ (hw ‹_›) _
    · exact h
  split
  · obtain ⟨st9, h9, hm⟩ := round_ends h
    rw [h9]
    exact hm.inv
  · exact h

theorem LOut.refl {L lb : Nat} {st : Lk} {R : Nat → Option Addr} {C : Nat → Nat} {W : World} (h : LinkAt L lb st R C W) : LOut L lb R W st W := ⟨R, C, h, Kept.refl _ _ _⟩

section
variable (L lb : Nat) (st : Lk) (R : Nat → Option Addr) (C : Nat → Nat) (W : World) (who : Int)
theorem dsend (m : ByteArray) (hi : Inv st) (hl : LinkAt L lb st R C W) (hL : L ≤ W.heap.size) : Calls Try.prog 14 #[.pointer (some ⟨lb, 0, none⟩), .int .i64 who, .string m] W fun e W' =>
    e = .returned (.int .i64 (if who = 0 ∨ who = 1 then sendK st who.toNat m else (st, 1)).2) ∧ LOut L lb R W (if who = 0 ∨ who = 1 then sendK st who.toNat m else (st, 1)).1 W' := by
  have f := hi.fits
  by_cases h : who = 0 ∨ who = 1
  · rw [if_pos h]
    rcases h with rfl | rfl
    · exact send_0 L lb st R C W m hl f.u1 hL f.s0
    · exact send_1 L lb st R C W m hl f.u0 hL f.s1
  · rw [if_neg h]
    exact (send_no lb who m W h).mono fun e W' ⟨he, hw⟩ => ⟨he, by rw [hw]; exact LOut.refl hl⟩
theorem dtick (hi : Inv st) (hl : LinkAt L lb st R C W) (hL : L ≤ W.heap.size) : Calls Try.prog 23 #[.pointer (some ⟨lb, 0, none⟩), .int .i64 who] W fun e W' =>
    e = .returned (.int .i64 (if who = 0 ∨ who = 1 then tickK st who.toNat else (st, 1)).2) ∧ LOut L lb R W (if who = 0 ∨ who = 1 then tickK st who.toNat else (st, 1)).1 W' := by
  have f := hi.fits
  by_cases h : who = 0 ∨ who = 1
  · rw [if_pos h]
    rcases h with rfl | rfl
    · exact tick_0 L lb st R C W hl f.u1 hL f.s0
    · exact tick_1 L lb st R C W hl f.u0 hL f.s1
  · rw [if_neg h]
    exact (tick_no lb who W h).mono fun e W' ⟨he, hw⟩ => ⟨he, by rw [hw]; exact LOut.refl hl⟩
theorem dcome (i : Int) (keep : Bool) (hi : Inv st) (hl : LinkAt L lb st R C W) (hL : L ≤ W.heap.size) : Calls Try.prog 16 #[.pointer (some ⟨lb, 0, none⟩), .int .i64 who, .int .i64 i, .bool keep] W fun e W' =>
    e = .returned (.int .i64 (if who = 0 ∨ who = 1 then comeK st who.toNat i keep else (st, 1)).2) ∧ LOut L lb R W (if who = 0 ∨ who = 1 then comeK st who.toNat i keep else (st, 1)).1 W' := by
  have f := hi.fits
  by_cases h : who = 0 ∨ who = 1
  · rw [if_pos h]
    rcases h with rfl | rfl
    · cases keep
      · exact come_0_false L lb st R C W i hl f.u0 f.u1 f.g0 hL f.s0
      · exact come_0_true L lb st R C W i hl f.u0 f.u1 f.g0 hL f.s0
    · cases keep
      · exact come_1_false L lb st R C W i hl f.u1 f.u0 f.g1 hL f.s1
      · exact come_1_true L lb st R C W i hl f.u1 f.u0 f.g1 hL f.s1
  · rw [if_neg h]
    exact (come_no lb who i keep W h).mono fun e W' ⟨he, hw⟩ => ⟨he, by rw [hw]; exact LOut.refl hl⟩
theorem dlose (i : Int) (hi : Inv st) (hl : LinkAt L lb st R C W) : Calls Try.prog 24 #[.pointer (some ⟨lb, 0, none⟩), .int .i64 who, .int .i64 i] W fun e W' =>
    e = .returned (.int .i64 (if who = 0 ∨ who = 1 then loseK st who.toNat i else (st, 1)).2) ∧ LOut L lb R W (if who = 0 ∨ who = 1 then loseK st who.toNat i else (st, 1)).1 W' := by
  have f := hi.fits
  by_cases h : who = 0 ∨ who = 1
  · rw [if_pos h]
    rcases h with rfl | rfl
    · exact lose_0 L lb st R C W i hl f.u0
    · exact lose_1 L lb st R C W i hl f.u1
  · rw [if_neg h]
    exact (lose_no lb who i W h).mono fun e W' ⟨he, hw⟩ => ⟨he, by rw [hw]; exact LOut.refl hl⟩
theorem dround (hi : Inv st) (hl : LinkAt L lb st R C W) (hL : L ≤ W.heap.size) : Calls Try.prog 22 #[.pointer (some ⟨lb, 0, none⟩)] W fun e W' => e = .returned (.tuple #[]) ∧ LOut L lb R W ((roundS FU st).getD st) W' := by
  obtain ⟨st9, h9, _⟩ := round_ends hi
  have := round_inv L lb FU st st9 R C W hl hi h9 hL
  rw [h9]
  exact this
end
theorem LinkAt.lout {L lb : Nat} {st st' : Lk} {R : Nat → Option Addr} {C : Nat → Nat} {W V W' : World} (_ : LinkAt L lb st R C W) (hb : Below W.heap.size W V) (hk : LOut L lb R V st' W') : LOut L lb R W st' W' := by
  obtain ⟨R', C', h1, h2⟩ := hk
  exact ⟨R', C', h1, (Kept.of_below lb R hb).trans h2⟩

set_option maxHeartbeats 4000000 in
set_option maxRecDepth 100000 in
theorem does_0 (L lb : Nat) (st : Lk) (kd who i : Int) (m : ByteArray) (R : Nat → Option Addr) (C : Nat → Nat) (W : World) (hi : Inv st) (hl : LinkAt L lb st R C W) (hL : L ≤ W.heap.size) (h : kd = 0) :
    Calls Try.prog 10 #[.pointer (some ⟨lb, 0, none⟩), .agg #[.int .i64 kd, .int .i64 who, .int .i64 i, .string m]] W fun e W' => e = .returned (.int .i64 (if who = 0 ∨ who = 1 then sendK st who.toNat m else (st, 1)).2) ∧ LOut L lb R W (if who = 0 ∨ who = 1 then sendK st who.toNat m else (st, 1)).1 W' := by
  subst h
  obtain ⟨V, hV⟩ : ∃ V, V = W.alloc (.cells #[.int .i64 0, .int .i64 who, .int .i64 i, .string m] 27) := ⟨_, rfl⟩
  have hbV : Below W.heap.size W V := by rw [hV]; exact (Below.refl _ W).alloc (Nat.le_refl _) _
  have hbk : Bk V W.heap.size 27 #[.int .i64 0, .int .i64 who, .int .i64 i, .string m] := by rw [hV]; exact Bk.new _ _ _
  have HLV := Lib.hid (hl.over hbV)
  have HLW := Lib.hid hl
  have HBV := Lib.hid hbV
  have hLV : L ≤ V.heap.size := Nat.le_trans hL hbV.size
  have q0 : V.cell? ⟨W.heap.size, 0, none⟩ = some (.int .i64 0) := by rw [hbk.cell]; rfl
  have q1 : V.cell? ⟨W.heap.size, 1, none⟩ = some (.int .i64 who) := by rw [hbk.cell]; rfl
  have q2 : V.cell? ⟨W.heap.size, 2, none⟩ = some (.int .i64 i) := by rw [hbk.cell]; rfl
  have q3 : V.cell? ⟨W.heap.size, 3, none⟩ = some (.string m) := by rw [hbk.cell]; rfl
  have HV := Lib.hid hV
  obtain ⟨rr, hrr⟩ : ∃ rr, rr = (if who = 0 ∨ who = 1 then sendK st who.toNat m else (st, 1)) := ⟨_, rfl⟩
  have hc := dsend L lb st R C V who m hi (hl.over hbV) hLV
  rw [← hrr] at hc ⊢
  have HC := Lib.hid hc
  clear hrr hc
  clear hl hbV hbk hi hV
  go_enter Try.func10, Try.ntmps10
  go_upto_region 1 with (fail)
  rw [← HV.out]
  clear HV
  go_wp2_with fail
  refine HC.out.mono ?_
  rintro e w' ⟨rfl, hk⟩
  have HK := Lib.hid (HLW.out.lout HBV.out hk)
  clear hk
  go_wp2
  go_ret
  exact ⟨rfl, HK.out⟩

set_option maxHeartbeats 4000000 in
set_option maxRecDepth 100000 in
theorem does_1 (L lb : Nat) (st : Lk) (kd who i : Int) (m : ByteArray) (R : Nat → Option Addr) (C : Nat → Nat) (W : World) (hi : Inv st) (hl : LinkAt L lb st R C W) (hL : L ≤ W.heap.size) (h : kd = 1) :
    Calls Try.prog 10 #[.pointer (some ⟨lb, 0, none⟩), .agg #[.int .i64 kd, .int .i64 who, .int .i64 i, .string m]] W fun e W' => e = .returned (.int .i64 (if who = 0 ∨ who = 1 then tickK st who.toNat else (st, 1)).2) ∧ LOut L lb R W (if who = 0 ∨ who = 1 then tickK st who.toNat else (st, 1)).1 W' := by
  subst h
  obtain ⟨V, hV⟩ : ∃ V, V = W.alloc (.cells #[.int .i64 1, .int .i64 who, .int .i64 i, .string m] 27) := ⟨_, rfl⟩
  have hbV : Below W.heap.size W V := by rw [hV]; exact (Below.refl _ W).alloc (Nat.le_refl _) _
  have hbk : Bk V W.heap.size 27 #[.int .i64 1, .int .i64 who, .int .i64 i, .string m] := by rw [hV]; exact Bk.new _ _ _
  have HLV := Lib.hid (hl.over hbV)
  have HLW := Lib.hid hl
  have HBV := Lib.hid hbV
  have hLV : L ≤ V.heap.size := Nat.le_trans hL hbV.size
  have q0 : V.cell? ⟨W.heap.size, 0, none⟩ = some (.int .i64 1) := by rw [hbk.cell]; rfl
  have q1 : V.cell? ⟨W.heap.size, 1, none⟩ = some (.int .i64 who) := by rw [hbk.cell]; rfl
  have q2 : V.cell? ⟨W.heap.size, 2, none⟩ = some (.int .i64 i) := by rw [hbk.cell]; rfl
  have q3 : V.cell? ⟨W.heap.size, 3, none⟩ = some (.string m) := by rw [hbk.cell]; rfl
  have HV := Lib.hid hV
  obtain ⟨rr, hrr⟩ : ∃ rr, rr = (if who = 0 ∨ who = 1 then tickK st who.toNat else (st, 1)) := ⟨_, rfl⟩
  have hc := dtick L lb st R C V who hi (hl.over hbV) hLV
  rw [← hrr] at hc ⊢
  have HC := Lib.hid hc
  clear hrr hc
  clear hl hbV hbk hi hV
  go_enter Try.func10, Try.ntmps10
  go_upto_region 1 with (fail)
  rw [← HV.out]
  clear HV
  go_wp2_with fail
  refine HC.out.mono ?_
  rintro e w' ⟨rfl, hk⟩
  have HK := Lib.hid (HLW.out.lout HBV.out hk)
  clear hk
  go_wp2
  go_ret
  exact ⟨rfl, HK.out⟩

set_option maxHeartbeats 4000000 in
set_option maxRecDepth 100000 in
theorem does_2 (L lb : Nat) (st : Lk) (kd who i : Int) (m : ByteArray) (R : Nat → Option Addr) (C : Nat → Nat) (W : World) (hi : Inv st) (hl : LinkAt L lb st R C W) (hL : L ≤ W.heap.size) (h : kd = 2) :
    Calls Try.prog 10 #[.pointer (some ⟨lb, 0, none⟩), .agg #[.int .i64 kd, .int .i64 who, .int .i64 i, .string m]] W fun e W' => e = .returned (.int .i64 (if who = 0 ∨ who = 1 then comeK st who.toNat i false else (st, 1)).2) ∧ LOut L lb R W (if who = 0 ∨ who = 1 then comeK st who.toNat i false else (st, 1)).1 W' := by
  subst h
  obtain ⟨V, hV⟩ : ∃ V, V = W.alloc (.cells #[.int .i64 2, .int .i64 who, .int .i64 i, .string m] 27) := ⟨_, rfl⟩
  have hbV : Below W.heap.size W V := by rw [hV]; exact (Below.refl _ W).alloc (Nat.le_refl _) _
  have hbk : Bk V W.heap.size 27 #[.int .i64 2, .int .i64 who, .int .i64 i, .string m] := by rw [hV]; exact Bk.new _ _ _
  have HLV := Lib.hid (hl.over hbV)
  have HLW := Lib.hid hl
  have HBV := Lib.hid hbV
  have hLV : L ≤ V.heap.size := Nat.le_trans hL hbV.size
  have q0 : V.cell? ⟨W.heap.size, 0, none⟩ = some (.int .i64 2) := by rw [hbk.cell]; rfl
  have q1 : V.cell? ⟨W.heap.size, 1, none⟩ = some (.int .i64 who) := by rw [hbk.cell]; rfl
  have q2 : V.cell? ⟨W.heap.size, 2, none⟩ = some (.int .i64 i) := by rw [hbk.cell]; rfl
  have q3 : V.cell? ⟨W.heap.size, 3, none⟩ = some (.string m) := by rw [hbk.cell]; rfl
  have HV := Lib.hid hV
  obtain ⟨rr, hrr⟩ : ∃ rr, rr = (if who = 0 ∨ who = 1 then comeK st who.toNat i false else (st, 1)) := ⟨_, rfl⟩
  have hc := dcome L lb st R C V who i false hi (hl.over hbV) hLV
  rw [← hrr] at hc ⊢
  have HC := Lib.hid hc
  clear hrr hc
  clear hl hbV hbk hi hV
  go_enter Try.func10, Try.ntmps10
  go_upto_region 1 with (fail)
  rw [← HV.out]
  clear HV
  go_wp2_with fail
  refine HC.out.mono ?_
  rintro e w' ⟨rfl, hk⟩
  have HK := Lib.hid (HLW.out.lout HBV.out hk)
  clear hk
  go_wp2
  go_ret
  exact ⟨rfl, HK.out⟩

set_option maxHeartbeats 4000000 in
set_option maxRecDepth 100000 in
theorem does_3 (L lb : Nat) (st : Lk) (kd who i : Int) (m : ByteArray) (R : Nat → Option Addr) (C : Nat → Nat) (W : World) (hi : Inv st) (hl : LinkAt L lb st R C W) (hL : L ≤ W.heap.size) (h : kd = 3) :
    Calls Try.prog 10 #[.pointer (some ⟨lb, 0, none⟩), .agg #[.int .i64 kd, .int .i64 who, .int .i64 i, .string m]] W fun e W' => e = .returned (.int .i64 (if who = 0 ∨ who = 1 then comeK st who.toNat i true else (st, 1)).2) ∧ LOut L lb R W (if who = 0 ∨ who = 1 then comeK st who.toNat i true else (st, 1)).1 W' := by
  subst h
  obtain ⟨V, hV⟩ : ∃ V, V = W.alloc (.cells #[.int .i64 3, .int .i64 who, .int .i64 i, .string m] 27) := ⟨_, rfl⟩
  have hbV : Below W.heap.size W V := by rw [hV]; exact (Below.refl _ W).alloc (Nat.le_refl _) _
  have hbk : Bk V W.heap.size 27 #[.int .i64 3, .int .i64 who, .int .i64 i, .string m] := by rw [hV]; exact Bk.new _ _ _
  have HLV := Lib.hid (hl.over hbV)
  have HLW := Lib.hid hl
  have HBV := Lib.hid hbV
  have hLV : L ≤ V.heap.size := Nat.le_trans hL hbV.size
  have q0 : V.cell? ⟨W.heap.size, 0, none⟩ = some (.int .i64 3) := by rw [hbk.cell]; rfl
  have q1 : V.cell? ⟨W.heap.size, 1, none⟩ = some (.int .i64 who) := by rw [hbk.cell]; rfl
  have q2 : V.cell? ⟨W.heap.size, 2, none⟩ = some (.int .i64 i) := by rw [hbk.cell]; rfl
  have q3 : V.cell? ⟨W.heap.size, 3, none⟩ = some (.string m) := by rw [hbk.cell]; rfl
  have HV := Lib.hid hV
  obtain ⟨rr, hrr⟩ : ∃ rr, rr = (if who = 0 ∨ who = 1 then comeK st who.toNat i true else (st, 1)) := ⟨_, rfl⟩
  have hc := dcome L lb st R C V who i true hi (hl.over hbV) hLV
  rw [← hrr] at hc ⊢
  have HC := Lib.hid hc
  clear hrr hc
  clear hl hbV hbk hi hV
  go_enter Try.func10, Try.ntmps10
  go_upto_region 1 with (fail)
  rw [← HV.out]
  clear HV
  go_wp2_with fail
  refine HC.out.mono ?_
  rintro e w' ⟨rfl, hk⟩
  have HK := Lib.hid (HLW.out.lout HBV.out hk)
  clear hk
  go_wp2
  go_ret
  exact ⟨rfl, HK.out⟩

set_option maxHeartbeats 4000000 in
set_option maxRecDepth 100000 in
theorem does_4 (L lb : Nat) (st : Lk) (kd who i : Int) (m : ByteArray) (R : Nat → Option Addr) (C : Nat → Nat) (W : World) (hi : Inv st) (hl : LinkAt L lb st R C W) (hL : L ≤ W.heap.size) (h : kd = 4) :
    Calls Try.prog 10 #[.pointer (some ⟨lb, 0, none⟩), .agg #[.int .i64 kd, .int .i64 who, .int .i64 i, .string m]] W fun e W' => e = .returned (.int .i64 (if who = 0 ∨ who = 1 then loseK st who.toNat i else (st, 1)).2) ∧ LOut L lb R W (if who = 0 ∨ who = 1 then loseK st who.toNat i else (st, 1)).1 W' := by
  subst h
  obtain ⟨V, hV⟩ : ∃ V, V = W.alloc (.cells #[.int .i64 4, .int .i64 who, .int .i64 i, .string m] 27) := ⟨_, rfl⟩
  have hbV : Below W.heap.size W V := by rw [hV]; exact (Below.refl _ W).alloc (Nat.le_refl _) _
  have hbk : Bk V W.heap.size 27 #[.int .i64 4, .int .i64 who, .int .i64 i, .string m] := by rw [hV]; exact Bk.new _ _ _
  have HLV := Lib.hid (hl.over hbV)
  have HLW := Lib.hid hl
  have HBV := Lib.hid hbV
  have hLV : L ≤ V.heap.size := Nat.le_trans hL hbV.size
  have q0 : V.cell? ⟨W.heap.size, 0, none⟩ = some (.int .i64 4) := by rw [hbk.cell]; rfl
  have q1 : V.cell? ⟨W.heap.size, 1, none⟩ = some (.int .i64 who) := by rw [hbk.cell]; rfl
  have q2 : V.cell? ⟨W.heap.size, 2, none⟩ = some (.int .i64 i) := by rw [hbk.cell]; rfl
  have q3 : V.cell? ⟨W.heap.size, 3, none⟩ = some (.string m) := by rw [hbk.cell]; rfl
  have HV := Lib.hid hV
  obtain ⟨rr, hrr⟩ : ∃ rr, rr = (if who = 0 ∨ who = 1 then loseK st who.toNat i else (st, 1)) := ⟨_, rfl⟩
  have hc := dlose L lb st R C V who i hi (hl.over hbV)
  rw [← hrr] at hc ⊢
  have HC := Lib.hid hc
  clear hrr hc
  clear hl hbV hbk hi hV
  go_enter Try.func10, Try.ntmps10
  go_upto_region 1 with (fail)
  rw [← HV.out]
  clear HV
  go_wp2_with fail
  refine HC.out.mono ?_
  rintro e w' ⟨rfl, hk⟩
  have HK := Lib.hid (HLW.out.lout HBV.out hk)
  clear hk
  go_wp2
  go_ret
  exact ⟨rfl, HK.out⟩

set_option maxHeartbeats 4000000 in
set_option maxRecDepth 100000 in
theorem does_5 (L lb : Nat) (st : Lk) (kd who i : Int) (m : ByteArray) (R : Nat → Option Addr) (C : Nat → Nat) (W : World) (hi : Inv st) (hl : LinkAt L lb st R C W) (hL : L ≤ W.heap.size) (h : kd = 5) :
    Calls Try.prog 10 #[.pointer (some ⟨lb, 0, none⟩), .agg #[.int .i64 kd, .int .i64 who, .int .i64 i, .string m]] W fun e W' => e = .returned (.int .i64 (((roundS FU st).getD st, (0 : Int))).2) ∧ LOut L lb R W (((roundS FU st).getD st, (0 : Int))).1 W' := by
  subst h
  obtain ⟨V, hV⟩ : ∃ V, V = W.alloc (.cells #[.int .i64 5, .int .i64 who, .int .i64 i, .string m] 27) := ⟨_, rfl⟩
  have hbV : Below W.heap.size W V := by rw [hV]; exact (Below.refl _ W).alloc (Nat.le_refl _) _
  have hbk : Bk V W.heap.size 27 #[.int .i64 5, .int .i64 who, .int .i64 i, .string m] := by rw [hV]; exact Bk.new _ _ _
  have HLV := Lib.hid (hl.over hbV)
  have HLW := Lib.hid hl
  have HBV := Lib.hid hbV
  have hLV : L ≤ V.heap.size := Nat.le_trans hL hbV.size
  have q0 : V.cell? ⟨W.heap.size, 0, none⟩ = some (.int .i64 5) := by rw [hbk.cell]; rfl
  have q1 : V.cell? ⟨W.heap.size, 1, none⟩ = some (.int .i64 who) := by rw [hbk.cell]; rfl
  have q2 : V.cell? ⟨W.heap.size, 2, none⟩ = some (.int .i64 i) := by rw [hbk.cell]; rfl
  have q3 : V.cell? ⟨W.heap.size, 3, none⟩ = some (.string m) := by rw [hbk.cell]; rfl
  have HV := Lib.hid hV
  obtain ⟨rr, hrr⟩ : ∃ rr, rr = (roundS FU st).getD st := ⟨_, rfl⟩
  have hc := dround L lb st R C V hi (hl.over hbV) hLV
  rw [← hrr] at hc ⊢
  have HC := Lib.hid hc
  clear hrr hc
  clear hl hbV hbk hi hV
  go_enter Try.func10, Try.ntmps10
  go_upto_region 1 with (fail)
  rw [← HV.out]
  clear HV
  go_wp2_with fail
  refine HC.out.mono ?_
  rintro e w' ⟨rfl, hk⟩
  have HK := Lib.hid (HLW.out.lout HBV.out hk)
  clear hk
  go_wp2
  go_ret
  exact ⟨rfl, HK.out⟩

set_option maxHeartbeats 4000000 in
set_option maxRecDepth 100000 in
theorem does_6 (L lb : Nat) (st : Lk) (kd who i : Int) (m : ByteArray) (R : Nat → Option Addr) (C : Nat → Nat) (W : World) (hl : LinkAt L lb st R C W) (h : ¬ (kd = 0 ∨ kd = 1 ∨ kd = 2 ∨ kd = 3 ∨ kd = 4 ∨ kd = 5)) :
    Calls Try.prog 10 #[.pointer (some ⟨lb, 0, none⟩), .agg #[.int .i64 kd, .int .i64 who, .int .i64 i, .string m]] W fun e W' => e = .returned (.int .i64 ((st, (0 : Int))).2) ∧ LOut L lb R W ((st, (0 : Int))).1 W' := by
  have b0 : (kd == 0) = false := by rw [beq_eq_false_iff_ne]; omega
  have b1 : (kd == 1) = false := by rw [beq_eq_false_iff_ne]; omega
  have b2 : (kd == 2) = false := by rw [beq_eq_false_iff_ne]; omega
  have b3 : (kd == 3) = false := by rw [beq_eq_false_iff_ne]; omega
  have b4 : (kd == 4) = false := by rw [beq_eq_false_iff_ne]; omega
  have b5 : (kd == 5) = false := by rw [beq_eq_false_iff_ne]; omega
  clear h
  obtain ⟨V, hV⟩ : ∃ V, V = W.alloc (.cells #[.int .i64 kd, .int .i64 who, .int .i64 i, .string m] 27) := ⟨_, rfl⟩
  have hbV : Below W.heap.size W V := by rw [hV]; exact (Below.refl _ W).alloc (Nat.le_refl _) _
  have hbk : Bk V W.heap.size 27 #[.int .i64 kd, .int .i64 who, .int .i64 i, .string m] := by rw [hV]; exact Bk.new _ _ _
  have HLV := Lib.hid (hl.over hbV)
  have HLW := Lib.hid hl
  have HBV := Lib.hid hbV
  have q0 : V.cell? ⟨W.heap.size, 0, none⟩ = some (.int .i64 kd) := by rw [hbk.cell]; rfl
  have q1 : V.cell? ⟨W.heap.size, 1, none⟩ = some (.int .i64 who) := by rw [hbk.cell]; rfl
  have q2 : V.cell? ⟨W.heap.size, 2, none⟩ = some (.int .i64 i) := by rw [hbk.cell]; rfl
  have q3 : V.cell? ⟨W.heap.size, 3, none⟩ = some (.string m) := by rw [hbk.cell]; rfl
  have HV := Lib.hid hV
  clear hl hbV hbk hV
  go_enter Try.func10, Try.ntmps10
  go_upto_region 1 with (fail)
  rw [← HV.out]
  clear HV
  go_wp2
  go_ret
  exact ⟨rfl, HLW.out.lout HBV.out (LOut.refl HLV.out)⟩

/-- A move of the link. -/
theorem does_any (L lb : Nat) (st : Lk) (x : Fr) (R : Nat → Option Addr) (C : Nat → Nat) (W : World) (hi : Inv st) (hl : LinkAt L lb st R C W) (hL : L ≤ W.heap.size) :
    Calls Try.prog 10 #[.pointer (some ⟨lb, 0, none⟩), x.val] W fun e W' => e = .returned (.int .i64 (doesK st x).2) ∧ LOut L lb R W (doesK st x).1 W' := by
  obtain ⟨kd, who, i, m⟩ := x
  unfold Fr.val
  dsimp only
  by_cases h0 : kd = 0
  · have e : doesK st ⟨kd, who, i, m⟩ = (if who = 0 ∨ who = 1 then sendK st who.toNat m else (st, 1)) := by unfold doesK; rw [if_pos h0]
    rw [e]
    exact does_0 L lb st kd who i m R C W hi hl hL h0
  by_cases h1 : kd = 1
  · have e : doesK st ⟨kd, who, i, m⟩ = (if who = 0 ∨ who = 1 then tickK st who.toNat else (st, 1)) := by unfold doesK; rw [if_neg h0, if_pos h1]
    rw [e]
    exact does_1 L lb st kd who i m R C W hi hl hL h1
  by_cases h2 : kd = 2
  · have e : doesK st ⟨kd, who, i, m⟩ = (if who = 0 ∨ who = 1 then comeK st who.toNat i false else (st, 1)) := by unfold doesK; rw [if_neg h0, if_neg h1, if_pos (.inl h2)]; dsimp only; rw [show decide (kd = 3) = false from decide_eq_false (by omega)]
    rw [e]
    exact does_2 L lb st kd who i m R C W hi hl hL h2
  by_cases h3 : kd = 3
  · have e : doesK st ⟨kd, who, i, m⟩ = (if who = 0 ∨ who = 1 then comeK st who.toNat i true else (st, 1)) := by unfold doesK; rw [if_neg h0, if_neg h1, if_pos (.inr h3)]; dsimp only; rw [show decide (kd = 3) = true from decide_eq_true h3]
    rw [e]
    exact does_3 L lb st kd who i m R C W hi hl hL h3
  by_cases h4 : kd = 4
  · have e : doesK st ⟨kd, who, i, m⟩ = (if who = 0 ∨ who = 1 then loseK st who.toNat i else (st, 1)) := by unfold doesK; rw [if_neg h0, if_neg h1, if_neg (by show ¬ (kd = 2 ∨ kd = 3); omega), if_pos h4]
    rw [e]
    exact does_4 L lb st kd who i m R C W hi hl hL h4
  by_cases h5 : kd = 5
  · have e : doesK st ⟨kd, who, i, m⟩ = (((roundS FU st).getD st, (0 : Int))) := by unfold doesK; rw [if_neg h0, if_neg h1, if_neg (by show ¬ (kd = 2 ∨ kd = 3); omega), if_neg h4, if_pos h5]
    rw [e]
    exact does_5 L lb st kd who i m R C W hi hl hL h5
  have e : doesK st ⟨kd, who, i, m⟩ = ((st, (0 : Int))) := by unfold doesK; rw [if_neg h0, if_neg h1, if_neg (by show ¬ (kd = 2 ∨ kd = 3); omega), if_neg h4, if_neg h5]
  rw [e]
  exact does_6 L lb st kd who i m R C W hl (by omega)

end Go.Proofs.Ytnbndhmdfheikaa
