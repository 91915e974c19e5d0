/- SessOnce: the walk. By mk_main.py. -/
import Derived.Test.YtkklghdmnkdofaaQ3
import Derived.Test.YtkklghdmnkdofaaQ1
import Derived.Deep.DeepCutAuto
import Derived.Deep.CutBlock
import Derived.Deep.CutRange
import Derived.StillTailTactics
namespace Go.Proofs.Ytkklghdmnkdofaa
open Go.RowKit

set_option maxRecDepth 1000000 in
set_option maxHeartbeats 16000000 in
theorem once_walk (A0 : Option Addr) (N c0 : Nat) (l : List Mv) (w : World) (hnm : N ≤ maxLen) (hr : Rd w w.heap.size 3 A0 N (mvs l)) :
    Calls Try.prog 7 #[.slice A0 N c0] w fun e w' => e = .returned (.bool true) ∧ Below w.heap.size w w' := by
  have hN : l.length = N := by have := hr.1; rw [mvs_len] at this; omega
  have HR := Lib.hid hr
  have HNN := Lib.hid hN
  clear hr hN
  unfold maxLen at hnm
  go_enter Try.func7, Try.ntmps7
  go_wp2_with fail
  refine (wakes_any w).mono ?_
  rintro e w1 ⟨rfl, hb1⟩
  have HB1 := Lib.hid hb1
  clear hb1
  by_cases hbig : N ≤ 256
  case neg =>
    have i1 : (256 : Int) < (N : Int) := by omega
    go_wp2
    go_ret
    exact ⟨rfl, HB1.out⟩
  have hz1 : w.heap.size ≤ w1.heap.size := HB1.out.size
  obtain ⟨W1, hW1⟩ : ∃ W1, W1 = ((w1.alloc (.cells (arrE 0 ED.zero ED.zero) 45)).alloc (.cells (arrU 0 ED.zero ED.zero) 46)).alloc (.cells (arrC 0 ED.zero ED.zero) 47) := ⟨_, rfl⟩
  have HO : Hid (OnceAt w w1.heap.size 0 W1) := by
    refine ⟨ED.zero, ED.zero, ⟨?_, ?_, ?_, World.ownsRow_nil _ _ _ _, World.ownsRow_nil _ _ _ _, World.ownsRow_nil _ _ _ _, World.ownsRow_nil _ _ _ _, World.ownsRow_nil _ _ _ _, World.ownsRow_nil _ _ _ _,
      Ap.none_left _, Ap.none_left _, Ap.none_left _, Ap.none_left _, Ap.none_left _, Ap.none_left _⟩, half_start, half_start, Nat.zero_le _, Nat.zero_le _, ?_⟩
    · rw [hW1]; exact ((Bk.new _ _ _).alloc _).alloc _
    · rw [hW1]; exact (Bk.second _ _ _ _).alloc _
    · rw [hW1]
      have := Bk.second (w1.alloc (.cells (arrE 0 ED.zero ED.zero) 45)) (.cells (arrU 0 ED.zero ED.zero) 46) 47 (arrC 0 ED.zero ED.zero)
      simpa using this
    · rw [hW1]; exact ((HB1.out.alloc hz1 _).alloc (by simp; omega) _).alloc (by simp; omega) _
  unfold arrE arrU arrC ED.zero at hW1
  dsimp only [List.length_nil] at hW1
  go_upto_region 9 with (fail)
  rw [← hW1]
  clear hW1
  go_loopw [32] (fun i wr => ∃ k : Nat, k ≤ N ∧ i = .int .i64 k ∧ OnceAt w w1.heap.size k wr) (fun i _ => N - (intOf i).toNat)
  case atStart => exact ⟨0, Nat.zero_le _, rfl, HO.out⟩
  case round =>
    obtain ⟨k, hk, rfl, ho⟩ := hrel
    have HOr := Lib.hid ho
    clear ho
    rename World => V
    by_cases hlt : k < N
    · have hkl : k < l.length := by have := HNN.out; omega
      obtain ⟨x0, y0, hT0, hX0, hY0, hu0, hv0, hbl⟩ := HOr.out
      obtain ⟨a, rfl, _, f0, f1, f2⟩ := (HR.out.below hbl).move hkl
      obtain ⟨⟨kind, who, ii⟩, hmv⟩ : ∃ mv, mv = l[k] := ⟨_, rfl⟩
      rw [← hmv] at f0 f1 f2
      clear hmv
      dsimp only at f0 f1 f2
      obtain ⟨me, hme, hand⟩ := and_one_any who
      obtain ⟨it, hit⟩ : ∃ it : Nat, it = 1 - me := ⟨_, rfl⟩
      have hitI : (1 : Int) - (me : Int) = (it : Int) := by omega
      obtain ⟨x, y, hT, hX, hY, hux, huy⟩ : ∃ x y, Two V w1.heap.size me x y ∧ Half x.s x.u x.g y.s y.g ∧ Half y.s y.u y.g x.s x.g ∧ x.u.length ≤ 64 * k ∧ y.u.length ≤ 64 * k := by
        obtain rfl | rfl : me = 0 ∨ me = 1 := by omega
        · exact ⟨x0, y0, hT0, hX0, hY0, hu0, hv0⟩
        · exact ⟨y0, x0, hT0.swap (by omega), hY0, hX0, hv0, hu0⟩
      obtain ⟨V1, hV1⟩ : ∃ V1, V1 = V.alloc (.cells #[.int .i64 kind, .int .i64 who, .int .i64 ii] 49) := ⟨_, rfl⟩
      have HT : Hid (Two V1 w1.heap.size me x y) := by rw [hV1]; exact hT.alloc _
      have HBL : Hid (Below w.heap.size w V1) := by rw [hV1]; exact hbl.alloc hbl.size _
      have hbx : Bk V1 V.heap.size 49 #[.int .i64 kind, .int .i64 who, .int .i64 ii] := by rw [hV1]; exact Bk.new _ _ _
      have HX := Lib.hid hX
      have HY := Lib.hid hY
      have hit2 : it < 2 := by omega
      have HIT := Lib.hid hit
      clear hT0 hX0 hY0 hu0 hv0 hbl hT hX hY hit
      go_upto_region 11 with (fail)
      rw [← hV1]
      clear hV1 f0 f1 f2
      have HBX := Lib.hid hbx
      obtain ⟨m0, m1, m2, mz0, mz1, mz2, hmg⟩ := hbx.three
      clear hbx
      have hme0 : (0 : Int) ≤ (me : Int) := by omega
      have hme1 : (me : Int) < 2 := by omega
      have hit0 : (0 : Int) ≤ (it : Int) := by omega
      have hit1 : (it : Int) < 2 := by omega
      go_upto_block 2 with (fail)
      go_cut [] (fun wx => OnceAt w w1.heap.size (k + 1) wx)
      case first =>
        have hk256 : k < 256 := by omega
        clear m0 m1 m2 mz0 mz1 mz2 hmg
        refine swAll w w1.heap.size k V.heap.size me it who ii x y V1 _ kind _ _ _ _ _ _ _ _ _ _ _ _ _ _ _ _ _ _ _ _ _ _ _ _ _ _ _ _ _ _ _ _ _ _ _ _ _ _ _ _ _ _ _ _ _ _ _ _ _ _ _ _ _ _ _ _ _ _ _ _ _ _ _ _ _ _ _ _ _ _ _ _ _ _ _ _ _ _ _ _ _ _ _ _ _ _ _ _ _ _ _ _ _ _ _ _ _ _ _ _ _ _ _ _ _ _ _ _ _ _ _ _ _ _ _ _ _ _ _ _ _ _ _ _ _ _ _ _ _ _ _ _ _ _ _ _ _ _ _ _ _ _ _ _ _ _ _ _ _ _ _ _ _ _ _ _ _ _ _ _ _ _ _ _ _ _ _ _ _ _ _ _ _ _ _ _ _ _ _ _ _ _ _ _ _ _ _ _ _ _ _ _ _ _ _ _ _ _ _ _ _ _ _ _ _ _ _ _ _ _ _ _ _ _ _ _ _ _ _ _ _ _ _ _ _ _ _ _ _ hz1 hme HIT.out HT.out HX.out HY.out hux huy hk256 HBX.out HBL.out ?_ ?_
        all_goals
          intros
          rename_i wx hwx
          try go_wp2_with fail
          first
            | (go_meet; exact hwx)
            | exact ⟨⟨k + 1, by omega, by push_cast; rfl, hwx⟩, by simp only [intOf]; omega⟩
      case rest =>
        rename World => V2
        rename_i Kx hKx
        refine hKx _ _ ?_
        refine onceRest w w1.heap.size (k + 1) V2 _ _ _ _ _ _ _ _ _ _ _ _ _ _ _ _ _ _ _ _ _ _ _ _ _ _ _ _ _ _ _ _ _ _ _ _ _ _ _ _ _ _ _ _ _ _ _ _ _ _ _ _ _ _ _ _ _ _ _ _ _ _ _ _ _ _ _ _ _ _ _ _ _ _ _ _ _ _ _ _ _ _ _ _ _ _ _ _ _ _ _ _ _ _ _ _ _ _ _ _ _ _ _ _ _ _ _ _ _ _ _ _ _ _ _ _ _ _ _ _ _ _ _ _ _ _ _ _ _ _ _ _ _ _ _ _ _ _ _ _ _ _ _ _ _ _ _ _ _ _ _ _ _ _ _ _ _ _ _ _ _ _ _ _ _ _ _ _ _ _ _ _ _ _ _ _ _ _ _ _ _ _ _ _ _ _ _ _ _ _ _ _ _ _ _ _ _ _ _ _ _ _ _ _ _ _ _ _ _ _ _ _ _ _ _ _ _ _ _ _ _ _ _ _ _ _ _ _ _ _ _ _ _ _ hcut ?_
        intros
        rename_i wx hwx
        try go_wp2_with fail
        exact ⟨⟨k + 1, by omega, by push_cast; rfl, hwx⟩, by simp only [intOf]; omega⟩
    · have i3 : ¬ ((k : Int) < (N : Int)) := by omega
      obtain ⟨x0, y0, hT0, hX0, hY0, hu0, hv0, hbl⟩ := HOr.out
      have HBL := Lib.hid hbl
      clear hT0 hX0 hY0 hu0 hv0 hbl
      go_wp2
      go_ret
      exact ⟨rfl, HBL.out⟩

end Go.Proofs.Ytkklghdmnkdofaa
