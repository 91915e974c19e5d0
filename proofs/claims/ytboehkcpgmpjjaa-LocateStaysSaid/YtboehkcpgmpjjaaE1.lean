/- Walks: the lists are the same; Tidy. By gen_e1.py. -/
import Derived.Test.YtboehkcpgmpjjaaC8
import Derived.Deep.QuietTactic
namespace Go.Proofs.Ytboehkcpgmpjjaa
open Go.RowKit

theorem fields39 : Try.prog.underlying 39 = some (.struct (Try.prog.fieldsOf 39)) := by kernel_rfl
set_option maxHeartbeats 1000000 in
theorem sameInts_any (A B : Option Addr) (n c d : Nat) (l : List Int) (w : World) (hl : l.length = n) (hn : n ≤ maxLen) (ha : Rd w w.heap.size 1 A n (ints l)) (hb : Rd w w.heap.size 1 B n (ints l)) :
    Calls Try.prog 12 #[.slice A n c, .slice B n d] w fun e w' => e = .returned (.bool true) ∧ ∃ m, w' = w.drewN m := by
  unfold maxLen at hn
  have HL := Lib.hid hl
  clear hl
  go_enter Try.func12, Try.ntmps12
  go_wp2
  go_loopw [13] (fun i wr => ∃ k : Nat, k ≤ n ∧ i = .int .i64 k ∧ ∃ m, wr = w.drewN m) (fun i _ => n - (intOf i).toNat)
  case atStart => exact ⟨0, Nat.zero_le _, rfl, 0, rfl⟩
  case round =>
    obtain ⟨k, hk, rfl, m, rfl⟩ := hrel
    by_cases hlt : k < n
    · have hlt' : k < l.length := by have := HL.out; omega
      obtain ⟨a, rfl, _, c0⟩ := ha.int hlt'
      obtain ⟨b, rfl, _, d0⟩ := hb.int hlt'
      have i1 : (0 : Int) ≤ (k : Int) := by omega
      have i2 : (k : Int) < (n : Int) := by omega
      go_wp2_with fail
      go_quiet (fail)
      go_wp2
      go_roundw
      case rel => exact ⟨k + 1, by omega, by go_num, _, rfl⟩
      case measure => simp [intOf]; omega
    · go_wp2
      go_ret
      exact ⟨rfl, _, rfl⟩

set_option maxHeartbeats 1000000 in
theorem same_any (A B : Option Addr) (n c d : Nat) (l : List Lc) (w : World) (hl : l.length = n) (hn : n ≤ maxLen) (ha : Rd w w.heap.size 3 A n (lcs l)) (hb : Rd w w.heap.size 3 B n (lcs l)) :
    Calls Try.prog 17 #[.slice A n c, .slice B n d] w fun e w' => e = .returned (.bool true) ∧ ∃ m, w' = w.drewN m := by
  unfold maxLen at hn
  have HL := Lib.hid hl
  clear hl
  go_enter Try.func17, Try.ntmps17
  go_wp2
  go_loopw [13] (fun i wr => ∃ k : Nat, k ≤ n ∧ i = .int .i64 k ∧ ∃ m, wr = w.drewN m) (fun i _ => n - (intOf i).toNat)
  case atStart => exact ⟨0, Nat.zero_le _, rfl, 0, rfl⟩
  case round =>
    obtain ⟨k, hk, rfl, m, rfl⟩ := hrel
    by_cases hlt : k < n
    · have hlt' : k < l.length := by have := HL.out; omega
      obtain ⟨a, rfl, _, c0, c1, c2⟩ := ha.loc hlt'
      obtain ⟨b, rfl, _, d0, d1, d2⟩ := hb.loc hlt'
      have i1 : (0 : Int) ≤ (k : Int) := by omega
      have i2 : (k : Int) < (n : Int) := by omega
      go_wp2_with fail
      go_quiet (fail)
      go_wp2
      go_roundw
      case rel => exact ⟨k + 1, by omega, by go_num, _, rfl⟩
      case measure => simp [intOf]; omega
    · go_wp2
      go_ret
      exact ⟨rfl, _, rfl⟩


set_option maxHeartbeats 4000000 in
theorem tidy_any (A B : Option Addr) (n c m d : Nat) (av : List Int) (l : List Lc) (w : World) (hn : n ≤ maxLen) (hm : m ≤ maxLen) (hra : Rd w w.heap.size 1 A n (ints av)) (hrl : Rd w w.heap.size 3 B m (lcs l)) :
    Calls Try.prog 9 #[.slice A n c, .slice B m d] w fun e w' => e = .returned (.bool (tidyB av l)) ∧ Below w.heap.size w w' := by
  have hl : av.length = n := by have := hra.1; rw [ints_len] at this; omega
  have hlm : l.length = m := by have := hrl.1; rw [lcs_len] at this; omega
  obtain ⟨r, hr⟩ : ∃ r, r = tidyB av l := ⟨_, rfl⟩
  rw [← hr]
  have HR := Lib.hid hr
  have HL := Lib.hid hl
  have HLM := Lib.hid hlm
  have HRA := Lib.hid hra
  have HRL := Lib.hid hrl
  clear hr hl hlm hra hrl
  unfold maxLen at hn hm
  go_enter Try.func9, Try.ntmps9
  go_wp2
  go_loopw [11] (fun v wr => ∃ k : Nat, k ≤ n ∧ v = .int .i64 k ∧ (av.take k).all fitsQ = true ∧ Below w.heap.size w wr) (fun v _ => n - (intOf v).toNat)
  case atStart => exact ⟨0, Nat.zero_le _, rfl, rfl, Below.refl _ _⟩
  case round =>
    obtain ⟨k, hk, rfl, hpre, hbv⟩ := hrel
    rename World => V
    have HP := Lib.hid hpre
    have HBV := Lib.hid hbv
    clear hpre hbv
    by_cases hlt : k < n
    · have hkl : k < av.length := by have := HL.out; omega
      obtain ⟨a0, hA, _, c0⟩ := (HRA.out.below HBV.out).int hkl
      obtain ⟨v, hv⟩ : ∃ v, v = av[k] := ⟨_, rfl⟩
      rw [← hv] at c0
      have HV := Lib.hid hv
      subst hA
      clear hv
      have i1 : (k : Int) < (n : Int) := by omega
      have i2 : (0 : Int) ≤ (k : Int) := by omega
      have i3 : IntKind.i64.wrap ((k : Int) + 1) = (k : Int) + 1 := IntWalk.i64_in _ (by omega)
      go_wp2_with fail
      refine (fits_any v V).mono ?_
      rintro e w' ⟨rfl, hw'⟩
      subst hw'
      by_cases hf : fitsQ v = true
      · rw [hf]
        go_wp2
        refine ⟨⟨k + 1, by omega, by push_cast; rfl, ?_, HBV.out⟩, by simp only [intOf]; omega⟩
        rw [List.take_add_one, List.getElem?_eq_getElem hkl, List.all_append, HP.out, ← HV.out]
        simp [hf]
      · have hf' : fitsQ v = false := by simpa using hf
        have e : r = false := by
          rw [HR.out]
          unfold tidyB
          have : av.all fitsQ = false := by
            cases h : av.all fitsQ with
            | false => rfl
            | true => rw [HV.out, List.all_eq_true.1 h _ (List.getElem_mem hkl)] at hf'; cases hf'
          rw [this]; rfl
        subst e
        rw [hf']
        go_wp2
        go_ret
        exact ⟨rfl, HBV.out⟩
    · have i3 : ¬ ((k : Int) < (n : Int)) := by omega
      have hall : av.all fitsQ = true := by
        have := HP.out
        rwa [List.take_of_length_le (by have := HL.out; omega)] at this
      have HALL := Lib.hid hall
      clear hall
      go_wp2
      go_loopw [21] (fun v wr => ∃ k : Nat, k ≤ m ∧ v = .int .i64 k ∧ upto (tidyAt l) k = true ∧ Below w.heap.size w wr) (fun v _ => m - (intOf v).toNat)
      case atStart => exact ⟨0, Nat.zero_le _, rfl, rfl, HBV.out⟩
      case round =>
        obtain ⟨j, hj, rfl, hpre, hbv⟩ := hrel
        rename World => V2
        have HP2 := Lib.hid hpre
        have HBV2 := Lib.hid hbv
        clear hpre hbv
        by_cases hlt2 : j < m
        · have hjl : j < l.length := by have := HLM.out; omega
          obtain ⟨a0, hA, _, c0, c1, c2⟩ := (HRL.out.below HBV2.out).loc hjl
          obtain ⟨⟨xa, xi, xq⟩, hx⟩ : ∃ x, x = l[j] := ⟨_, rfl⟩
          rw [← hx] at c0 c1 c2
          have HX : Hid (l.getD j default = ⟨xa, xi, xq⟩) := by rw [hx]; exact getD_lt hjl
          dsimp only at c0 c1 c2
          subst hA
          clear hx
          have i1 : (j : Int) < (m : Int) := by omega
          have i2 : (0 : Int) ≤ (j : Int) := by omega
          have i4 : IntKind.i64.wrap ((j : Int) + 1) = (j : Int) + 1 := IntWalk.i64_in _ (by omega)
          obtain ⟨V3, hV3⟩ : ∃ V3, V3 = V2.alloc (.cells #[.int .i64 xa, .int .i64 xi, .int .i64 xq] 39) := ⟨_, rfl⟩
          obtain ⟨bx, hbx⟩ : ∃ bx, bx = V2.heap.size := ⟨_, rfl⟩
          have HBX : Hid (Bk V3 bx 39 #[.int .i64 xa, .int .i64 xi, .int .i64 xq]) := by rw [hV3, hbx]; exact Bk.new _ _ _
          have HB3 : Hid (Below w.heap.size w V3) := by rw [hV3]; exact HBV2.out.alloc HBV2.out.size _
          go_upto_region 10 with (fail)
          rw [← hV3, ← hbx]
          clear hV3 hbx c0 c1 c2
          obtain ⟨x0, x1, x2, z0, z1, z2, hxg⟩ := HBX.out.three
          obtain ⟨f, hf⟩ : ∃ f, f = fitsQ xq := ⟨_, rfl⟩
          have hfc : ∀ W, _ := fun W => fits_any xq W
          rw [← hf] at hfc
          have HF := Lib.hid hf
          have HFC := Lib.hid hfc
          clear hf hfc
          have hno : tidyAt l j = false → r = false := fun h => by
            rw [HR.out]
            unfold tidyB
            rw [upto_false hjl h, Bool.and_false]
          have HNO := Lib.hid hno
          clear hno
          have hyes : tidyAt l j = true → upto (tidyAt l) (j + 1) = true := fun h => by rw [upto_succ, HP2.out, h]; rfl
          have HYES := Lib.hid hyes
          clear hyes
          have hat : ∀ b, ordAt l j = b → tidyAt l j = (f && b) := fun b h => by unfold tidyAt; rw [HX.out, h, HF.out]
          have HAT := Lib.hid hat
          clear hat
          by_cases hff : f = true
          case neg =>
            have hff' : f = false := by simpa using hff
            subst hff'
            have e : r = false := HNO.out (by rw [HAT.out _ rfl]; rfl)
            subst e
            go_quiet ((go_at_call 22; exact Calls.quiet_of_same (HFC.out _)))
            go_wp2
            go_ret
            exact ⟨rfl, ⟨HB3.out.os, HB3.out.tape, HB3.out.output, HB3.out.size, HB3.out.block⟩⟩
          subst hff
          have fin : ordAt l j = true → ∀ q, (∃ k : Nat, k ≤ m ∧ Value.int IntKind.i64 ((j : Int) + 1) = .int .i64 k ∧ upto (tidyAt l) k = true ∧ Below w.heap.size w (V3.drewN q)) := fun h q =>
            ⟨j + 1, by omega, by push_cast; rfl, HYES.out (by rw [HAT.out _ h]; rfl), ⟨HB3.out.os, HB3.out.tape, HB3.out.output, HB3.out.size, HB3.out.block⟩⟩
          have FIN := Lib.hid fin
          have bad : ordAt l j = false → r = false := fun h => HNO.out (by rw [HAT.out _ h]; rfl)
          have BAD := Lib.hid bad
          clear fin bad
          rcases j with _ | j
          · have i5 : ¬ ((0 : Int) > 0) := by omega
            simp only [Int.natCast_zero] at *
            go_quiet ((go_at_call 22; exact Calls.quiet_of_same (HFC.out _)))
            go_wp2
            exact ⟨FIN.out (by simp [ordAt]) _, by simp only [intOf]; omega⟩
          have hj0 : j < l.length := by omega
          obtain ⟨a1, hA1, _, d0, d1, d2⟩ := (HRL.out.below HB3.out).loc hj0
          have e1 : a1 = a0 := (Option.some.inj hA1).symm
          subst e1
          obtain ⟨⟨ya, yi, yq⟩, hy⟩ : ∃ y, y = l[j] := ⟨_, rfl⟩
          rw [← hy] at d0 d1 d2
          have HY : Hid (l.getD j default = ⟨ya, yi, yq⟩) := by rw [hy]; exact getD_lt hj0
          dsimp only at d0 d1 d2
          clear hy hA1
          have hord : Hid (ordAt l (j + 1) = decide (ya < xa ∨ (ya = xa ∧ yi < xi))) := by
            unfold ordAt
            rw [Nat.add_sub_cancel, HX.out, HY.out]
            exact decide_eq_decide.2 (by rw [cmpL_lt]; dsimp only; omega)
          have j1 : (0 : Int) < (j : Int) + 1 := by omega
          have j2 : IntKind.i64.wrap ((j : Int) + 1 - 1) = (j : Int) := by rw [Int.add_sub_cancel]; exact IntWalk.i64_in _ (by omega)
          have j3 : (0 : Int) ≤ (j : Int) := by omega
          have j4 : (j : Int) < (m : Int) := by omega
          have j5 : (j : Int) + 1 - 1 = (j : Int) := by omega
          have j6 : IntKind.i64.wrap (j : Int) = (j : Int) := IntWalk.i64_in _ (by omega)
          by_cases h1 : xa < ya
          · have e : r = false := BAD.out (by rw [hord.out]; exact decide_eq_false (by omega))
            subst e
            go_quiet ((go_at_call 22; exact Calls.quiet_of_same (HFC.out _)))
            go_wp2
            go_ret
            exact ⟨rfl, ⟨HB3.out.os, HB3.out.tape, HB3.out.output, HB3.out.size, HB3.out.block⟩⟩
          by_cases h2 : ya = xa
          · subst h2
            by_cases h3 : xi ≤ yi
            · have e : r = false := BAD.out (by rw [hord.out]; exact decide_eq_false (by omega))
              subst e
              go_quiet ((go_at_call 22; exact Calls.quiet_of_same (HFC.out _)))
              go_wp2
              go_ret
              exact ⟨rfl, ⟨HB3.out.os, HB3.out.tape, HB3.out.output, HB3.out.size, HB3.out.block⟩⟩
            · have ho : ordAt l (j + 1) = true := by rw [hord.out]; exact decide_eq_true (by omega)
              have h4 : ¬ (yi ≥ xi) := by omega
              go_quiet ((go_at_call 22; exact Calls.quiet_of_same (HFC.out _)))
              go_wp2
              exact ⟨FIN.out ho _, by simp only [intOf]; omega⟩
          · have ho : ordAt l (j + 1) = true := by rw [hord.out]; exact decide_eq_true (by omega)
            go_quiet ((go_at_call 22; exact Calls.quiet_of_same (HFC.out _)))
            go_wp2
            exact ⟨FIN.out ho _, by simp only [intOf]; omega⟩
        · have i5 : ¬ ((j : Int) < (m : Int)) := by omega
          have hjm : j = m := by omega
          have e : r = true := by
            rw [HR.out]
            unfold tidyB
            rw [HALL.out, HLM.out, ← hjm, HP2.out]
            rfl
          subst e
          go_wp2
          go_ret
          exact ⟨rfl, HBV2.out⟩

end Go.Proofs.Ytboehkcpgmpjjaa
