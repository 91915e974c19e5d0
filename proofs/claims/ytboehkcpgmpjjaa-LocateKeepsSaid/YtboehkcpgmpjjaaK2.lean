/- Walk of LocateKeeps. -/
import Derived.Test.YtboehkcpgmpjjaaK1
namespace Go.Proofs.Ytboehkcpgmpjjaa
open Go.RowKit

theorem below_drewN (B : Nat) (w : World) (j : Nat) : Below B w (w.drewN j) := ⟨rfl, rfl, rfl, Nat.le_refl _, fun _ _ => rfl⟩
theorem own_empty {V : World} {base g : Nat} {e k : Nat} (h : Bk V g e #[]) (hb : base ≤ g) : V.ownsRow base e k (.slice (some ⟨g, 0, none⟩) 0 0) 0 [] :=
  ⟨by simp, .inr ⟨g, 0, #[], rfl, hb, h, Nat.le_refl _, Nat.zero_le _, by simp, by simp⟩⟩
def xyL : List Lc := [⟨73, 0, 0⟩, ⟨74, 0, 0⟩]
theorem rd_blk {V : World} {g t k n : Nat} {cs : Array Value} (h : Bk V g t cs) (hn : cs.size = n * k) : Rd V (g + 1) k (some ⟨g, 0, none⟩) n cs.toList :=
  ⟨by simpa using hn, fun _ => ⟨_, rfl, by simp, World.news_of_block h⟩⟩

theorem own_ne_type {w : World} {b1 e1 s1 n c b2 e2 s2 m d : Nat} {A B : Option Addr} {xs ys : List Value} (h : w.ownsRow b1 e1 s1 (.slice A n c) n xs) (h' : w.ownsRow b2 e2 s2 (.slice B m d) m ys) (hne : e1 ≠ e2) : ∀ p, B = some p → some p.block ≠ (Value.slice A n c).ownBlock := by
  rintro p rfl he
  rcases h.2 with ⟨hv, _⟩ | ⟨g, cap, cur, hv, _, hh, _⟩
  · rw [hv] at he; cases he
  · rw [hv] at he
    have e3 : p.block = g := Option.some.inj he
    rcases h'.2 with ⟨hv', _⟩ | ⟨g', cap', cur', hv', _, hh', _⟩
    · cases hv'
    · injection hv' with hv'
      injection hv' with hv'
      subst hv'
      dsimp only at e3
      subst e3
      rw [hh] at hh'
      injection hh' with hh'
      injection hh' with _ h2 _
      exact hne h2

set_option maxHeartbeats 16000000 in
set_option maxRecDepth 100000 in
theorem lkeeps_walk (A B : Option Addr) (n c m d : Nat) (av : List Int) (l : List Lc) (xa xi xq : Int) (w : World) (hn : (n + 3) * 8 ≤ 140737488355328) (hm : m ≤ maxLen) (hra : Rd w w.heap.size 1 A n (ints av)) (hrl : Rd w w.heap.size 3 B m (lcs l)) :
    Calls Try.prog 5 #[.slice A n c, .slice B m d, .agg #[.int .i64 xa, .int .i64 xi, .int .i64 xq]] w fun e w' => e = .returned (.bool true) ∧ Below w.heap.size w w' := by
  obtain ⟨W, hW⟩ : ∃ W, W = w.alloc (.cells #[.int .i64 xa, .int .i64 xi, .int .i64 xq] 25) := ⟨_, rfl⟩
  obtain ⟨bx, hbx⟩ : ∃ bx, bx = w.heap.size := ⟨_, rfl⟩
  have HBX : Hid (Bk W bx 25 #[.int .i64 xa, .int .i64 xi, .int .i64 xq]) := by rw [hW, hbx]; exact Bk.new _ _ _
  have HWW : Hid (Below w.heap.size w W) := by rw [hW]; exact (Below.refl _ w).alloc (Nat.le_refl _) _
  have hll : l.length = m := by have := hrl.1; rw [lcs_len] at this; omega
  have hal : av.length = n := by have := hra.1; rw [ints_len] at this; omega
  have HLL := Lib.hid hll
  have HAL := Lib.hid hal
  have HRA : Hid (∀ V, Below W.heap.size W V → Rd V V.heap.size 1 A n (ints av)) := fun V h => ((hra.below HWW.out).mono HWW.out.size |>.below h).mono h.size
  have HRL : Hid (∀ V, Below W.heap.size W V → Rd V V.heap.size 3 B m (lcs l)) := fun V h => ((hrl.below HWW.out).mono HWW.out.size |>.below h).mono h.size
  have HFIN : Hid (∀ V, Below W.heap.size W V → Below w.heap.size w V) := fun V h => HWW.out.trans (h.mono HWW.out.size)
  have HT : Hid (∀ V, Below W.heap.size W V → Calls Try.prog 9 #[.slice A n c, .slice B m d] V fun e w' => e = .returned (.bool (tidyB av l)) ∧ Below V.heap.size V w') := fun V hV => tidy_any A B n c m d av l V (by unfold maxLen; omega) hm (HRA.out V hV) (HRL.out V hV)
  clear hll hal hra hrl
  unfold maxLen at hm
  go_enter Try.func5, Try.ntmps5
  go_wp2_with fail
  rw [← hW, ← hbx]
  clear hW hbx
  refine (wakes_any W).mono ?_
  rintro e w1 ⟨rfl, hb1⟩
  have HB1 := Lib.hid hb1
  clear hb1
  go_wp2_with fail
  refine (HT.out w1 HB1.out).mono ?_
  rintro e w2 ⟨rfl, hb2⟩
  have HB2 : Hid (Below W.heap.size W w2) := HB1.out.trans (hb2.mono HB1.out.size)
  clear hb2
  by_cases ht : tidyB av l = true
  case neg =>
    have ht' : tidyB av l = false := by simpa using ht
    rw [ht']
    go_wp2
    go_ret
    exact ⟨rfl, HFIN.out _ HB2.out⟩
  rw [ht]
  by_cases h512 : 512 < m
  · have i1 : (512 : Int) < (m : Int) := by omega
    go_wp2
    go_ret
    exact ⟨rfl, HFIN.out _ HB2.out⟩
  have i1 : ¬ ((512 : Int) < (m : Int)) := by omega
  have htt := ht
  unfold tidyB at htt
  rw [Bool.and_eq_true] at htt
  have HTT := Lib.hid htt
  clear ht htt
  -- the two copies
  obtain ⟨i0, hif, y0, y1, y2⟩ := info_parts info3
  obtain ⟨k0, hkf, u0, u1, u2⟩ := info_parts info39
  have hE : (w2.alloc (.cells #[] 3)).ownsRow w2.heap.size 3 1 (.slice (some ⟨w2.heap.size, 0, none⟩) 0 0) 0 [] := own_empty (Bk.new _ _ _) (Nat.le_refl _)
  have hRA2 : Rd (w2.alloc (.cells #[] 3)) w2.heap.size 1 A n (ints av) := (HRA.out w2 HB2.out).alloc (Nat.le_refl _) _
  have one1 := ints_one av
  have h71 : ∀ V : World, Rd (V.alloc (.cells #[.int .i64 71, .int .i64 72] 3)) (V.heap.size + 1) 1 (some ⟨V.heap.size, 0, none⟩) 2 [.int .i64 71, .int .i64 72] := fun V => rd_blk (Bk.new _ _ _) rfl
  go_upto_region 6 with (first
    | (at_builtin; refine wpList_append_rd _ rfl (.tmp 28) (.tmp 29) _ rfl w2.heap.size 3 i0 _ 1 8 Try.underlying22 hif y0 y1 y2 rfl (by omega) _ 0 [] rfl hE w2.heap.size A n c _ rfl hRA2 one1 (by unfold maxLen; omega) (by omega) (by simp) ?_; intro A1 c1 w3 h1 h2 hown1 hg1 hat1; simp only [Nat.zero_add, List.nil_append] at hown1 h1; have HO1 := Lib.hid hown1; have HG1 := Lib.hid hg1; clear hown1 hg1 hat1)
    | (at_builtin; refine wpList_append_rd _ rfl (.tmp 30) (.tmp 31) _ rfl w2.heap.size 3 i0 _ 1 8 Try.underlying22 hif y0 y1 y2 rfl (by omega) _ n (ints av) rfl (HO1.out.alloc _) _ _ 2 2 _ rfl (h71 _) (by simp [Value.oneCell']) (by unfold maxLen; omega) (by omega) (by have := HG1.out.size; simp at this; simp; omega) ?_; intro A2 c2 w4 h3 h4 hown2 hg2 hat2; have HO2 := Lib.hid hown2; have HG2 := Lib.hid hg2; clear hown2 hg2 hat2))
  have HB3 : Hid (Below w2.heap.size w2 w3) := ((Below.refl w2.heap.size w2).alloc (Nat.le_refl _) _).grown HG1.out (by simp) (fun b hb => Nat.le_of_eq (Option.some.inj hb))
  have HB4 : Hid (Below w2.heap.size w2 w4) := (HB3.out.alloc HB3.out.size _).grown HG2.out (by have := HB3.out.size; simp; omega) (fun b hb => (HO1.out.lt b hb).1)
  clear hE hRA2 h71 HG1 HG2
  have HBW4 : Hid (Below W.heap.size W w4) := HB2.out.trans (HB4.out.mono HB2.out.size)
  have hE2 : (w4.alloc (.cells #[] 39)).ownsRow w4.heap.size 39 3 (.slice (some ⟨w4.heap.size, 0, none⟩) 0 0) 0 [] := own_empty (Bk.new _ _ _) (Nat.le_refl _)
  have hRL2 : Rd (w4.alloc (.cells #[] 39)) w4.heap.size 3 B m (lcs l) := (HRL.out w4 HBW4.out).alloc (Nat.le_refl _) _
  have one2 := lcs_one l
  have h73 : ∀ V : World, Rd (V.alloc (.cells #[.int .i64 73, .int .i64 0, .int .i64 0, .int .i64 74, .int .i64 0, .int .i64 0] 39)) (V.heap.size + 1) 3 (some ⟨V.heap.size, 0, none⟩) 2 [.int .i64 73, .int .i64 0, .int .i64 0, .int .i64 74, .int .i64 0, .int .i64 0] := fun V => rd_blk (Bk.new _ _ _) rfl
  go_upto_region 7 with (first
    | (at_builtin; refine wpList_append_rd _ rfl (.tmp 33) (.tmp 34) _ rfl w4.heap.size 39 k0 _ 3 24 Try.underlying23 hkf u0 u1 u2 rfl (by omega) _ 0 [] rfl hE2 w4.heap.size B m d _ rfl hRL2 one2 (by unfold maxLen; omega) (by omega) (by simp) ?_; intro A3 c3 w5 h5 h6 hown3 hg3 hat3; simp only [Nat.zero_add, List.nil_append] at hown3 h5; have HO3 := Lib.hid hown3; have HG3 := Lib.hid hg3; clear hown3 hg3 hat3)
    | (at_builtin; refine wpList_append_rd _ rfl (.tmp 35) (.tmp 38) _ rfl w4.heap.size 39 k0 _ 3 24 Try.underlying23 hkf u0 u1 u2 rfl (by omega) _ m (lcs l) rfl (HO3.out.alloc _) _ _ 2 2 _ rfl (h73 _) (by simp [Value.oneCell']) (by unfold maxLen; omega) (by omega) (by have := HG3.out.size; simp at this; simp; omega) ?_; intro B2 d2 V1 h7 h8 hown4 hg4 hat4; have HO4 := Lib.hid hown4; have HG4 := Lib.hid hg4; clear hown4 hg4 hat4))
  have HB5 : Hid (Below w4.heap.size w4 w5) := ((Below.refl w4.heap.size w4).alloc (Nat.le_refl _) _).grown HG3.out (by simp) (fun b hb => Nat.le_of_eq (Option.some.inj hb))
  have HB6 : Hid (Below w4.heap.size w4 V1) := (HB5.out.alloc HB5.out.size _).grown HG4.out (by have := HB5.out.size; simp; omega) (fun b hb => (HO3.out.lt b hb).1)
  have HBV1 : Hid (Below W.heap.size W V1) := HBW4.out.trans (HB6.out.mono HBW4.out.size)
  have HV : Hid (V1.ownsRow w2.heap.size 3 1 (.slice A2 (n + 2) c2) (n + 2) (ints av ++ [.int .i64 71, .int .i64 72])) := own_keep HO2.out fun p hp => HB6.out.block _ (own_lt HO2.out p hp).2
  clear hE2 hRL2 h73 HG3 HG4 HO1 HO3
  have HRV : Hid (∀ V, Below V1.heap.size V1 V → Rd V V.heap.size 1 A2 (n + 2) (ints av ++ [.int .i64 71, .int .i64 72])) := fun V hV => ((Rd.of_own HV.out).below hV).mono hV.size
  have HRW : Hid (∀ V, Below V1.heap.size V1 V → Rd V V.heap.size 3 B2 (m + 2) (lcs l ++ [.int .i64 73, .int .i64 0, .int .i64 0, .int .i64 74, .int .i64 0, .int .i64 0])) := fun V hV => ((Rd.of_own HO4.out).below hV).mono hV.size
  have HRVn : Hid (∀ V, Below V1.heap.size V1 V → Rd V V.heap.size 1 A2 n (ints av)) := fun V hV => (HRV.out V hV).front (by rw [ints_len, HAL.out]; omega) (by omega)
  have HRWm : Hid (∀ V, Below V1.heap.size V1 V → Rd V V.heap.size 3 B2 m (lcs l)) := fun V hV => (HRW.out V hV).front (by rw [lcs_len, HLL.out]) (by omega)
  obtain ⟨⟨sl, se⟩, hrs⟩ : ∃ rs, rs = supplyS av xi xq := ⟨_, rfl⟩
  obtain ⟨⟨ral, rll, re⟩, hrr⟩ : ∃ rr, rr = reserveS av l xa xi xq := ⟨_, rfl⟩
  have hsl : sl.length ≤ n := by have := supply_len av xi xq; rw [← hrs, HAL.out] at this; exact this
  have hral : ral.length ≤ n ∧ rll.length ≤ m + 1 := by have := reserve_len av l xa xi xq; rw [← hrr, HAL.out, HLL.out] at this; exact this
  obtain ⟨hral, hrll⟩ := hral
  have HS1 : Hid (∀ V, Below V1.heap.size V1 V → Calls Try.prog 10 #[.slice A2 n c2, .int .i64 xi, .int .i64 xq] V (SupOut V (sl, se))) := fun V hV => by rw [hrs]; exact supply_any A2 n c2 av xi xq V HTT.out.1 (by omega) (HRVn.out V hV)
  have HR1 : Hid (∀ V, Below V1.heap.size V1 V → Calls Try.prog 15 #[.slice A2 n c2, .slice B2 m d2, .int .i64 xa, .int .i64 xi, .int .i64 xq] V (ResOut V (ral, rll, re))) := fun V hV => by rw [hrr]; exact reserve_any A2 B2 n c2 m d2 av l xa xi xq V HTT.out.1 HTT.out.2 (by omega) (by omega) (HRVn.out V hV) (HRWm.out V hV)
  clear hrs hrr
  unfold maxLen at h4 h8
  have HS : Hid (∀ V, Below V1.heap.size V1 V → (fun V => Below V1.heap.size V1 V ∧ V.cell? ⟨bx, 0, none⟩ = some (.int .i64 xa) ∧ V.cell? ⟨bx, 1, none⟩ = some (.int .i64 xi) ∧ V.cell? ⟨bx, 2, none⟩ = some (.int .i64 xq)) V) := fun V hV => by
    have a := (HBX.out.below (HBV1.out.trans (hV.mono HBV1.out.size)) HBX.out.lt).three
    exact ⟨hV, a.1, a.2.1, a.2.2.1⟩
  have e0 : (0 : Int) ≤ (n : Int) := by omega
  have e1 : (n : Int) ≤ (c2 : Int) := by omega
  have e2 : (0 : Int) ≤ (m : Int) := by omega
  have e3 : (m : Int) ≤ (d2 : Int) := by omega
  go_region_held (fun V => Below V1.heap.size V1 V ∧ V.cell? ⟨bx, 0, none⟩ = some (.int .i64 xa) ∧ V.cell? ⟨bx, 1, none⟩ = some (.int .i64 xi) ∧ V.cell? ⟨bx, 2, none⟩ = some (.int .i64 xq))
    (first
      | with_reducible assumption
      | (refine HS.out _ ?_; first | with_reducible exact HW2.out | with_reducible exact (Below.refl _ _).drew))
    (first
      | (go_at_call 10; obtain ⟨hB, -⟩ := ‹Below V1.heap.size V1 _ ∧ _›; refine (HS1.out _ hB).mono ?_; rintro e V7 ⟨A9, c9, rfl, hc9, hm9, ho9, hb9⟩; dsimp only at hc9 ho9; have HW2 : Hid (Below V1.heap.size V1 V7) := hB.trans (hb9.mono hB.size); have HO9 : Hid (Ow V7 V1.heap.size 3 1 A9 sl.length c9) := Ow.of (own_mono ho9 hB.size); clear hB hb9 ho9 hc9 hm9))
  all_goals
    have HB7 := HW2
    clear HW2 HS
    have h17 : V1.heap.size ≤ V7.heap.size := HB7.out.size
    have HS2 : Hid (∀ V, Below V7.heap.size V7 V → (fun V => Below V7.heap.size V7 V ∧ V.cell? ⟨bx, 0, none⟩ = some (.int .i64 xa) ∧ V.cell? ⟨bx, 1, none⟩ = some (.int .i64 xi) ∧ V.cell? ⟨bx, 2, none⟩ = some (.int .i64 xq)) V) := fun V hV => by
      have a := (HBX.out.below (HBV1.out.trans ((HB7.out.trans (hV.mono h17)).mono HBV1.out.size)) HBX.out.lt).three
      exact ⟨hV, a.1, a.2.1, a.2.2.1⟩
    go_upto_region 8 with (fail)
    go_region_held (fun V => Below V7.heap.size V7 V ∧ V.cell? ⟨bx, 0, none⟩ = some (.int .i64 xa) ∧ V.cell? ⟨bx, 1, none⟩ = some (.int .i64 xi) ∧ V.cell? ⟨bx, 2, none⟩ = some (.int .i64 xq))
      (first
        | with_reducible assumption
        | (refine HS2.out _ ?_; first | with_reducible exact HW2.out | with_reducible exact (Below.refl _ _).drew))
      (first
        | (go_at_call 15; obtain ⟨hB, -⟩ := ‹Below V7.heap.size V7 _ ∧ _›; refine (HR1.out _ (HB7.out.trans (hB.mono h17))).mono ?_; rintro e V8 ⟨A11, c11, A12, c12, rfl, _, _, _, _, ho11, ho12, hb11⟩; dsimp only at ho11 ho12; have HW2 : Hid (Below V7.heap.size V7 V8) := hB.trans (hb11.mono hB.size); have HO11 : Hid (Ow V8 V7.heap.size 3 1 A11 ral.length c11) := Ow.of (own_mono ho11 hB.size); have HO12 : Hid (Ow V8 V7.heap.size 39 3 A12 rll.length c12) := Ow.of (own_mono ho12 hB.size); clear hB hb11 ho11 ho12))
    all_goals
      have hdA : ∀ p, A9 = some p → p.block < V7.heap.size := fun p hp => (HO9.out.choose_spec.lt p.block (by rw [hp]; rfl)).2
      have hdB : ∀ p, A11 = some p → V7.heap.size ≤ p.block := fun p hp => (HO11.out.choose_spec.lt p.block (by rw [hp]; rfl)).1
      have hdC : ∀ p, A12 = some p → V7.heap.size ≤ p.block := fun p hp => (HO12.out.choose_spec.lt p.block (by rw [hp]; rfl)).1
      have HDA := Lib.hid hdA
      have HDB := Lib.hid hdB
      have HDC := Lib.hid hdC
      have HK0 : Hid (KL V1.heap.size V1 A9 sl.length c9 A11 ral.length c11 A12 rll.length c12 V8) := ⟨HB7.out.trans (HW2.out.mono h17), HO9.out.keep HW2.out.block, by obtain ⟨xs, h⟩ := HO11.out; exact ⟨xs, own_mono h h17⟩, by obtain ⟨xs, h⟩ := HO12.out; exact ⟨xs, own_mono h h17⟩⟩
      clear hdA hdB hdC HO9 HO11 HO12 HW2
      have hla := HK0.out.ra.len
      have hlb := HK0.out.rb.len
      have hlc := HK0.out.rc.len
      go_wp2
      go_loopw [73] (fun i wr => ∃ k : Nat, k ≤ sl.length ∧ i = .int .i64 k ∧ KL V1.heap.size V1 A9 sl.length c9 A11 ral.length c11 A12 rll.length c12 wr) (fun i _ => sl.length - (intOf i).toNat)
      case atStart => exact ⟨0, Nat.zero_le _, rfl, HK0.out⟩
      case round =>
        obtain ⟨k, hk, rfl, hkl⟩ := hrel
        have HKa := Lib.hid hkl
        clear hkl
        rename World => U1
        by_cases hlt : k < sl.length
        · obtain ⟨a1, q1, hA1, cc1, zz1, hl1, hset⟩ := HKa.out.cellA hlt
          have HSET := Lib.hid hset
          clear hset
          have i2 : (k : Int) < (sl.length : Int) := by omega
          have i3 : (0 : Int) ≤ (k : Int) := by omega
          have i4 : IntKind.i64.wrap ((k : Int) + 1) = (k : Int) + 1 := IntWalk.i64_in _ (by omega)
          go_wp2_with fail
          exact ⟨⟨k + 1, by omega, by push_cast; rfl, HSET.out _⟩, by simp only [intOf]; omega⟩
        have i5 : ¬ ((k : Int) < (sl.length : Int)) := by omega
        go_wp2
        go_loopw [82] (fun i wr => ∃ k : Nat, k ≤ ral.length ∧ i = .int .i64 k ∧ KL V1.heap.size V1 A9 sl.length c9 A11 ral.length c11 A12 rll.length c12 wr) (fun i _ => ral.length - (intOf i).toNat)
        case atStart => exact ⟨0, Nat.zero_le _, rfl, HKa.out⟩
        case round =>
          obtain ⟨k', hk', rfl, hkl⟩ := hrel
          have HKb := Lib.hid hkl
          clear hkl
          rename World => U2
          by_cases hlt' : k' < ral.length
          · obtain ⟨a1, q1, hA1, cc1, zz1, hl1, hset⟩ := HKb.out.cellB hlt'
            have HSET := Lib.hid hset
            clear hset
            have i2 : (k' : Int) < (ral.length : Int) := by omega
            have i3 : (0 : Int) ≤ (k' : Int) := by omega
            have i4 : IntKind.i64.wrap ((k' : Int) + 1) = (k' : Int) + 1 := IntWalk.i64_in _ (by omega)
            go_wp2_with fail
            exact ⟨⟨k' + 1, by omega, by push_cast; rfl, HSET.out _⟩, by simp only [intOf]; omega⟩
          have i6 : ¬ ((k' : Int) < (ral.length : Int)) := by omega
          go_wp2
          go_loopw [91] (fun i wr => ∃ k : Nat, k ≤ rll.length ∧ i = .int .i64 k ∧ KL V1.heap.size V1 A9 sl.length c9 A11 ral.length c11 A12 rll.length c12 wr) (fun i _ => rll.length - (intOf i).toNat)
          case atStart => exact ⟨0, Nat.zero_le _, rfl, HKb.out⟩
          case round =>
            obtain ⟨k2, hk2, rfl, hkl⟩ := hrel
            have HKc := Lib.hid hkl
            clear hkl
            rename World => U3
            by_cases hlt2 : k2 < rll.length
            · obtain ⟨a1, q0, q1, q2, hA1, ⟨cc0, cc1, cc2⟩, ⟨zz0, zz1, zz2⟩, ⟨s1, s2, s3, s4⟩, hl1, hset⟩ := HKc.out.cellC hlt2
              have HSET := Lib.hid hset
              clear hset
              have i2 : (k2 : Int) < (rll.length : Int) := by omega
              have i3 : (0 : Int) ≤ (k2 : Int) := by omega
              have i4 : IntKind.i64.wrap ((k2 : Int) + 1) = (k2 : Int) + 1 := IntWalk.i64_in _ (by omega)
              go_wp2_with fail
              exact ⟨⟨k2 + 1, by omega, by push_cast; rfl, HSET.out _ _ _⟩, by simp only [intOf]; omega⟩
            have i7 : ¬ ((k2 : Int) < (rll.length : Int)) := by omega
            obtain ⟨xs1, hx1⟩ := HKc.out.ra
            obtain ⟨xs2, hx2⟩ := HKc.out.rb
            obtain ⟨xs3, hx3⟩ := HKc.out.rc
            have HXA := Lib.hid hx1
            have HXB := Lib.hid hx2
            have HXC := Lib.hid hx3
            have HBU3 := Lib.hid HKc.out.bl
            have hs3 : V1.heap.size ≤ U3.heap.size := HBU3.out.size
            clear hx1 hx2 hx3
            have h123 : ∀ V : World, Rd (V.alloc (.cells #[.int .i64 1, .int .i64 2, .int .i64 3] 3)) (V.heap.size + 1) 1 (some ⟨V.heap.size, 0, none⟩) 3 [.int .i64 1, .int .i64 2, .int .i64 3] := fun V => rd_blk (Bk.new _ _ _) rfl
            have h000 : ∀ V : World, Rd (V.alloc (.cells #[.int .i64 0, .int .i64 0, .int .i64 0, .int .i64 0, .int .i64 0, .int .i64 0, .int .i64 0, .int .i64 0, .int .i64 0] 39)) (V.heap.size + 1) 3 (some ⟨V.heap.size, 0, none⟩) 3 [.int .i64 0, .int .i64 0, .int .i64 0, .int .i64 0, .int .i64 0, .int .i64 0, .int .i64 0, .int .i64 0, .int .i64 0] := fun V => rd_blk (Bk.new _ _ _) rfl
            go_upto_region 25 with (at_builtin; refine wpList_append_rd _ rfl (.tmp 99) (.tmp 100) _ rfl V1.heap.size 3 i0 _ 1 8 Try.underlying22 hif y0 y1 y2 rfl (by omega) _ sl.length xs1 rfl (HXA.out.alloc _) _ _ 3 3 _ rfl (h123 _) (by simp [Value.oneCell']) (by unfold maxLen; omega) (by omega) (by simp; omega) ?_; intro A13 c13 U4 _ _ hown5 hg5 hat5; clear hown5 hat5; have HG5 := Lib.hid hg5; clear hg5)
            have HXB4 : Hid (U4.ownsRow V1.heap.size 3 1 (.slice A11 ral.length c11) ral.length xs2) := own_keep (HXB.out.alloc _) fun p hp => HG5.out.block _ (own_lt (HXB.out.alloc _) p hp).2 (fun he => by
              rcases A9 with _ | pa
              · cases he
              · have e5 : p.block = pa.block := Option.some.inj he
                have := HDA.out pa rfl
                have := HDB.out p hp
                omega)
            have HXC4 : Hid (U4.ownsRow V1.heap.size 39 3 (.slice A12 rll.length c12) rll.length xs3) := own_keep (HXC.out.alloc _) fun p hp => HG5.out.block _ (own_lt (HXC.out.alloc _) p hp).2 (own_ne_type HXA.out HXC.out (by decide) p hp)
            have HBU4 : Hid (Below V1.heap.size V1 U4) := (HBU3.out.alloc hs3 _).grown HG5.out (by simp; omega) (fun b hb => (HXA.out.lt b hb).1)
            have hs4 : V1.heap.size ≤ U4.heap.size := HBU4.out.size
            clear HG5 HXB HXC HXA
            go_upto_region 26 with (at_builtin; refine wpList_append_rd _ rfl (.tmp 102) (.tmp 103) _ rfl V1.heap.size 3 i0 _ 1 8 Try.underlying22 hif y0 y1 y2 rfl (by omega) _ ral.length xs2 rfl (HXB4.out.alloc _) _ _ 3 3 _ rfl (h123 _) (by simp [Value.oneCell']) (by unfold maxLen; omega) (by omega) (by simp; omega) ?_; intro A14 c14 U5 _ _ hown6 hg6 hat6; clear hown6 hat6; have HG6 := Lib.hid hg6; clear hg6)
            have HXC5 : Hid (U5.ownsRow V1.heap.size 39 3 (.slice A12 rll.length c12) rll.length xs3) := own_keep (HXC4.out.alloc _) fun p hp => HG6.out.block _ (own_lt (HXC4.out.alloc _) p hp).2 (own_ne_type HXB4.out HXC4.out (by decide) p hp)
            have HBU5 : Hid (Below V1.heap.size V1 U5) := (HBU4.out.alloc hs4 _).grown HG6.out (by simp; omega) (fun b hb => (HXB4.out.lt b hb).1)
            have hs5 : V1.heap.size ≤ U5.heap.size := HBU5.out.size
            clear HG6 HXC4 HXB4
            have j1 : (3 : Int) ≤ (sl.length : Int) + 3 := by omega
            have j2 : (3 : Int) ≤ (ral.length : Int) + 3 := by omega
            have j3 : (3 : Int) ≤ (rll.length : Int) + 3 := by omega
            go_wp2_with (at_builtin; refine wpList_append_rd _ rfl (.tmp 105) (.tmp 109) _ rfl V1.heap.size 39 k0 _ 3 24 Try.underlying23 hkf u0 u1 u2 rfl (by omega) _ rll.length xs3 rfl (HXC5.out.alloc _) _ _ 3 3 _ rfl (h000 _) (by simp [Value.oneCell']) (by unfold maxLen; omega) (by omega) (by simp; omega) ?_; intro A15 c15 U6 _ _ hown7 hg7 hat7; have HBU6 : Hid (Below V1.heap.size V1 U6) := (HBU5.out.alloc hs5 _).grown hg7 (by simp; omega) (fun b hb => (HXC5.out.lt b hb).1); clear hown7 hat7 hg7)
            have HBWU : Hid (Below W.heap.size W U6) := HBV1.out.trans (HBU6.out.mono HBV1.out.size)
            obtain ⟨a2, hA2, _, v0⟩ := (HRV.out U6 HBU6.out).cell (j := n) (u := .int .i64 71) (by rw [List.getElem?_append_right (by rw [ints_len, HAL.out]; omega), ints_len, HAL.out, Nat.sub_self]; rfl)
            obtain ⟨a2', hA2', _, v1⟩ := (HRV.out U6 HBU6.out).cell (j := n + 1) (u := .int .i64 72) (by rw [List.getElem?_append_right (by rw [ints_len, HAL.out]; omega), ints_len, HAL.out, show n + 1 - n = 1 by omega]; rfl)
            have ea : a2' = a2 := Option.some.inj (hA2'.symm.trans hA2)
            subst ea
            have v1' : U6.cell? ⟨a2'.block, a2'.off + (n + 1), none⟩ = some (.int .i64 72) := by simpa [Addr.add] using v1
            obtain ⟨b2, hB2, _, r0⟩ := (HRW.out U6 HBU6.out).cell (j := m * 3) (u := .int .i64 73) (by rw [List.getElem?_append_right (by rw [lcs_len, HLL.out]; omega), lcs_len, HLL.out, Nat.sub_self]; rfl)
            obtain ⟨b2', hB2', _, r1⟩ := (HRW.out U6 HBU6.out).cell (j := (m + 1) * 3) (u := .int .i64 74) (by rw [List.getElem?_append_right (by rw [lcs_len, HLL.out]; omega), lcs_len, HLL.out, show (m + 1) * 3 - m * 3 = 3 by omega]; rfl)
            have eb : b2' = b2 := Option.some.inj (hB2'.symm.trans hB2)
            subst eb
            have hs12 := sameInts_any A2 A n c2 c av U6 HAL.out (by unfold maxLen; omega) (HRVn.out U6 HBU6.out) (HRA.out U6 HBWU.out)
            have hs17 := fun q : Nat => same_any B2 B m d2 d l (U6.drewN q) HLL.out (by unfold maxLen; omega) (HRWm.out U6 HBU6.out) (HRL.out U6 HBWU.out)
            have HS12 := Lib.hid hs12
            have HS17 := Lib.hid hs17
            clear hs12 hs17 hA2' hB2' v1
            rw [hA2] at HS12 ⊢
            rw [hB2] at HS17 ⊢
            have n1 : IntKind.i64.wrap ((n : Int) + 1) = (n : Int) + 1 := IntWalk.i64_in _ (by omega)
            have n2 : ((n : Int) + 1).toNat = n + 1 := by omega
            have n3 : (0 : Int) ≤ (n : Int) + 1 := by omega
            have n4 : (n : Int) < (n : Int) + 2 := by omega
            have n5 : (n : Int) + 1 < (n : Int) + 2 := by omega
            have m1 : IntKind.i64.wrap ((m : Int) + 1) = (m : Int) + 1 := IntWalk.i64_in _ (by omega)
            have m2 : ((m : Int) + 1).toNat = m + 1 := by omega
            have m3 : (0 : Int) ≤ (m : Int) + 1 := by omega
            have m4 : (m : Int) < (m : Int) + 2 := by omega
            have m5 : (m : Int) + 1 < (m : Int) + 2 := by omega
            refine HS12.out.mono ?_
            rintro e U7 ⟨rfl, q7, rfl⟩
            go_wp2_with fail
            refine (HS17.out q7).mono ?_
            rintro e U8 ⟨rfl, q8, rfl⟩
            go_wp2
            go_ret
            refine ⟨rfl, HFIN.out _ ?_⟩
            have h7 := HBWU.out
            exact ⟨h7.os, h7.tape, h7.output, h7.size, h7.block⟩

end Go.Proofs.Ytboehkcpgmpjjaa
