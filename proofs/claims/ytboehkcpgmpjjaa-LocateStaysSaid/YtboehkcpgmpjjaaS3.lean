/- Walk of LocateStays. -/
import Derived.Test.YtboehkcpgmpjjaaS2
import Derived.Test.YtboehkcpgmpjjaaF1
import Derived.BigQuiet
import Derived.Deep.DeepMust
import Derived.Deep.RegionHeld3
namespace Go.Proofs.Ytboehkcpgmpjjaa
open Go.RowKit

/-- What is held out of the sum, behind k2 accounts. -/
def dlt (xa xi q : Int) (k k2 : Nat) : Int := if (k : Int) = xi ∧ (k2 : Int) ≤ xa then q else 0

theorem dlt_step {xa xi q : Int} {k k2 : Nat} {s t P Q : Int} (h1 : s = t + dlt xa xi q k k2) (hx : (k2 : Int) = xa ∧ (k : Int) = xi → Q = P + q) (hn : ¬ ((k2 : Int) = xa ∧ (k : Int) = xi) → Q = P) : s + P = t + Q + dlt xa xi q k (k2 + 1) := by
  unfold dlt at h1 ⊢
  by_cases e : (k2 : Int) = xa ∧ (k : Int) = xi
  · have h2 := hx e
    rw [if_pos ⟨e.2, by omega⟩] at h1
    rw [if_neg (show ¬ ((k : Int) = xi ∧ ((k2 + 1 : Nat) : Int) ≤ xa) by omega)]
    omega
  · have h2 := hn e
    by_cases e2 : (k : Int) = xi ∧ (k2 : Int) ≤ xa
    · rw [if_pos e2] at h1
      rw [if_pos (show (k : Int) = xi ∧ ((k2 + 1 : Nat) : Int) ≤ xa by omega)]
      omega
    · rw [if_neg e2] at h1
      rw [if_neg (show ¬ ((k : Int) = xi ∧ ((k2 + 1 : Nat) : Int) ≤ xa) by omega)]
      omega

theorem good_all {av : List Int} {l : List Lc} {n : Int} (hg : goodB av l 16 n = true) : av.all fitsQ = true ∧ upto (tidyAt l) l.length = true := by
  rw [goodB_eq] at hg
  simp only [Bool.and_eq_true] at hg
  refine ⟨hg.2.1, ?_⟩
  have := hg.2.2
  rw [upto_both, Bool.and_eq_true] at this
  exact this.1

set_option maxHeartbeats 16000000 in
set_option maxRecDepth 100000 in
theorem stays_walk (A B : Option Addr) (n c m d : Nat) (av : List Int) (l : List Lc) (xa xi xq : Int) (w : World) (hn : n * 8 ≤ 140737488355328) (hm : m ≤ maxLen) (hra : Rd w w.heap.size 1 A n (ints av)) (hrl : Rd w w.heap.size 3 B m (lcs l)) :
    Calls Try.prog 7 #[.slice A n c, .slice B m d, .agg #[.int .i64 xa, .int .i64 xi, .int .i64 xq]] w fun e w' => e = .returned (.bool true) ∧ Below w.heap.size w w' := by
  obtain ⟨W, hW⟩ : ∃ W, W = w.alloc (.cells #[.int .i64 xa, .int .i64 xi, .int .i64 xq] 25) := ⟨_, rfl⟩
  obtain ⟨bx, hbx⟩ : ∃ bx, bx = w.heap.size := ⟨_, rfl⟩
  have HBX : Hid (Bk W bx 25 #[.int .i64 xa, .int .i64 xi, .int .i64 xq]) := by rw [hW, hbx]; exact Bk.new _ _ _
  have HWW : Hid (Below w.heap.size w W) := by rw [hW]; exact (Below.refl _ w).alloc (Nat.le_refl _) _
  have hll : l.length = m := by have := hrl.1; rw [lcs_len] at this; omega
  have hal : av.length = n := by have := hra.1; rw [ints_len] at this; omega
  have HLL := Lib.hid hll
  have HAL := Lib.hid hal
  have HRA : Hid (∀ V, Below W.heap.size W V → Rd V V.heap.size 1 A n (ints av)) := fun V h => ((hra.below HWW.out).mono HWW.out.size |>.below h).mono h.size
  have HRL : Hid (∀ V, Below W.heap.size W V → Rd V V.heap.size 3 B m (lcs l)) := fun V h => ((hrl.below HWW.out).mono HWW.out.size |>.below h).mono h.size
  have HBV : Hid (∀ V, Below W.heap.size W V → Bk V bx 25 #[.int .i64 xa, .int .i64 xi, .int .i64 xq]) := fun V h => HBX.out.below h HBX.out.lt
  have HFIN : Hid (∀ V, Below W.heap.size W V → Below w.heap.size w V) := fun V h => HWW.out.trans (h.mono HWW.out.size)
  have HH1 : Hid (∀ V, Below W.heap.size W V → ∀ a i, Calls Try.prog 13 #[.slice B m d, .int .i64 a, .int .i64 i] V fun e w' => e = .returned (.int .i64 (heldL l a i)) ∧ Below V.heap.size V w') := fun V hV a i => held_any B m d l a i V hm (HRL.out V hV)
  obtain ⟨g, hg⟩ : ∃ g, g = goodB av l 16 n := ⟨_, rfl⟩
  have HG1 : Hid (∀ V, Below W.heap.size W V → Calls Try.prog 20 #[.slice A n c, .slice B m d, .int .i64 16, .int .i64 (n : Int)] V fun e w' => e = .returned (.bool g) ∧ Below V.heap.size V w') := fun V h => by rw [hg]; exact good_any A B n c m d av l 16 n V (by unfold maxLen; omega) hm (HRA.out V h) (HRL.out V h)
  obtain ⟨rr, hrr⟩ : ∃ rr, rr = reserveS av l xa xi xq := ⟨_, rfl⟩
  have HR1 : Hid (g = true → ∀ V, Below W.heap.size W V → Calls Try.prog 15 #[.slice A n c, .slice B m d, .int .i64 xa, .int .i64 xi, .int .i64 xq] V (ResOut V rr)) := fun h1 V hV => by
    rw [hrr]
    have h2 := h1
    rw [hg] at h2
    exact reserve_any A B n c m d av l xa xi xq V (good_all h2).1 (good_all h2).2 hn (by have := ((good_iff _ _ _ _).1 h2).2.1; omega) (HRA.out V hV) (HRL.out V hV)
  have HGG := Lib.hid hg
  clear hg
  obtain ⟨⟨av', l', er⟩, hs⟩ : ∃ s, s = rr := ⟨_, rfl⟩
  rw [← hs] at HR1 hrr
  have HRR := Lib.hid hrr
  clear hs rr
  unfold maxLen at hm
  clear hll hal hra hrl hrr
  go_enter Try.func7, Try.ntmps7
  go_wp2_with fail
  rw [← hW, ← hbx]
  clear hW hbx
  refine (wakes_any W).mono ?_
  rintro e w1 ⟨rfl, hb1⟩
  have HB1 := Lib.hid hb1
  clear hb1
  obtain ⟨x0, x1, x2, z0, z1, z2, hxg⟩ := (HBV.out w1 HB1.out).three
  go_wp2_with fail
  refine (HG1.out w1 HB1.out).mono ?_
  rintro e w2 ⟨rfl, hb2⟩
  have HB2 : Hid (Below W.heap.size W w2) := HB1.out.trans (hb2.mono HB1.out.size)
  clear hb2 x0 x1 x2 z0 z1 z2 hxg
  obtain ⟨x0, x1, x2, z0, z1, z2, hxg⟩ := (HBV.out w2 HB2.out).three
  cases g with
  | false =>
    go_wp2
    go_ret
    exact ⟨rfl, HFIN.out _ HB2.out⟩
  | true => ?_
  by_cases hlo : xa < 2
  · go_wp2
    go_ret
    exact ⟨rfl, HFIN.out _ HB2.out⟩
  by_cases hhi : 15 < xa
  · go_wp2
    go_ret
    exact ⟨rfl, HFIN.out _ HB2.out⟩
  go_wp2_with fail
  refine (HR1.out trivial w2 HB2.out).mono ?_
  rintro e w3 ⟨A1, c1, B1, d1, rfl, hc1, hm1, hd1, hn1, ho1, hp1, hb3⟩
  have HB3 : Hid (Below W.heap.size W w3) := HB2.out.trans (hb3.mono HB2.out.size)
  clear hb3 x0 x1 x2 z0 z1 z2 hxg
  dsimp only at hc1 hd1 ho1 hp1
  have HC := Lib.hid (And.intro ho1 hp1)
  clear ho1 hp1
  by_cases her : er = 0
  case neg =>
    have hbad : av' = [] ∧ l' = [] := by
      have := reserveS_bad av l xa xi xq
      rw [← HRR.out] at this
      rcases this with h | h
      · exact absurd h her
      · exact h
    obtain ⟨rfl, rfl⟩ := hbad
    have hne : ¬ (0 : Int) = er := fun h => her h.symm
    go_wp2
    go_ret
    exact ⟨rfl, HFIN.out _ HB3.out⟩
  subst her
  have hK := kept HGG.out.symm ⟨by omega, by omega⟩ HRR.out.symm
  have HK := Lib.hid hK
  have hqs := hK.qs
  clear hK
  have hlen : av'.length = n := by have := ((good_iff _ _ _ _).1 HK.out.good).1; omega
  have hl32 : l'.length ≤ 32 := ((good_iff _ _ _ _).1 HK.out.good).2.1
  have HLEN := Lib.hid hlen
  have hW3 : W.heap.size ≤ w3.heap.size := HB3.out.size
  have HRA1 : Hid (∀ V, Below w3.heap.size w3 V → Rd V V.heap.size 1 A1 av'.length (ints av')) := fun V h => ((Rd.of_own HC.out.1).below h).mono h.size
  have HRL1 : Hid (∀ V, Below w3.heap.size w3 V → Rd V V.heap.size 3 B1 l'.length (lcs l')) := fun V h => ((Rd.of_own HC.out.2).below h).mono h.size
  have HH2 : Hid (∀ V, Below w3.heap.size w3 V → ∀ a i, Calls Try.prog 13 #[.slice B1 l'.length d1, .int .i64 a, .int .i64 i] V fun e w' => e = .returned (.int .i64 (heldL l' a i)) ∧ Below V.heap.size V w') := fun V hV a i => held_any B1 l'.length d1 l' a i V (by unfold maxLen; omega) (HRL1.out V hV)
  have HG2 : Hid (∀ V, Below w3.heap.size w3 V → Calls Try.prog 20 #[.slice A1 av'.length c1, .slice B1 l'.length d1, .int .i64 16, .int .i64 (n : Int)] V fun e w' => e = .returned (.bool true) ∧ Below V.heap.size V w') := fun V h => by rw [← HK.out.good]; exact good_any A1 B1 av'.length c1 l'.length d1 av' l' 16 n V (by unfold maxLen; omega) (by unfold maxLen; omega) (HRA1.out V h) (HRL1.out V h)
  have HR2 : Hid (∀ V, Below w3.heap.size w3 V → Calls Try.prog 15 #[.slice A1 av'.length c1, .slice B1 l'.length d1, .int .i64 xa, .int .i64 xi, .int .i64 (-xq)] V (ResOut V (av, l, 0))) := fun V h => by
    rw [← HK.out.back]
    exact reserve_any A1 B1 av'.length c1 l'.length d1 av' l' xa xi (-xq) V (good_all HK.out.good).1 (good_all HK.out.good).2 (by omega) (by omega) (HRA1.out V h) (HRL1.out V h)
  have HBW : Hid (∀ V, Below w3.heap.size w3 V → Below W.heap.size W V) := fun V h => HB3.out.trans (h.mono hW3)
  have HS : Hid (∀ V, Below w3.heap.size w3 V → (fun V => Below w3.heap.size w3 V ∧ V.cell? ⟨bx, 0, none⟩ = some (.int .i64 xa) ∧ V.cell? ⟨bx, 1, none⟩ = some (.int .i64 xi) ∧ V.cell? ⟨bx, 2, none⟩ = some (.int .i64 xq)) V) := fun V hV => by
    have a := (HBV.out V (HBW.out V hV)).three
    exact ⟨hV, a.1, a.2.1, a.2.2.1⟩
  have HREFL : Hid (Below w3.heap.size w3 w3) := Below.refl _ _
  obtain ⟨hx, hhx⟩ : ∃ hx, hx = heldL l xa xi := ⟨_, rfl⟩
  have HHX : Hid (heldL l' xa xi = hx + xq) := by rw [hhx]; exact HK.out.held
  have HHX0 : Hid (heldL l xa xi = hx) := hhx.symm
  have hxb := good_held HGG.out.symm xa xi
  rw [← hhx] at hxb
  have HX1 : Hid (∀ V, Below W.heap.size W V → Calls Try.prog 13 #[.slice B m d, .int .i64 xa, .int .i64 xi] V fun e w' => e = .returned (.int .i64 hx) ∧ Below V.heap.size V w') := fun V hV => by rw [hhx]; exact HH1.out V hV xa xi
  have HX2 : Hid (∀ V, Below w3.heap.size w3 V → Calls Try.prog 13 #[.slice B1 l'.length d1, .int .i64 xa, .int .i64 xi] V fun e w' => e = .returned (.int .i64 (hx + xq)) ∧ Below V.heap.size V w') := fun V hV => by rw [← HHX.out]; exact HH2.out V hV xa xi
  clear hhx hc1 hm1 hd1 hn1 hlen
  have i5 : IntKind.i64.wrap (hx + xq) = hx + xq := IntWalk.i64_in _ (by omega)
  have i6 : IntKind.i64.wrap (-xq) = -xq := IntWalk.i64_in _ (by omega)
  obtain ⟨x0, x1, x2, z0, z1, z2, hxg⟩ := (HBV.out w3 HB3.out).three
  go_upto_region 9 with (fail)
  go_region_held3 (fun V => Below w3.heap.size w3 V ∧ V.cell? ⟨bx, 0, none⟩ = some (.int .i64 xa) ∧ V.cell? ⟨bx, 1, none⟩ = some (.int .i64 xi) ∧ V.cell? ⟨bx, 2, none⟩ = some (.int .i64 xq))
    (first
      | with_reducible assumption
      | (refine HS.out _ ?_; first | with_reducible exact HW2.out | with_reducible exact HREFL.out | with_reducible exact (Below.refl _ _).drew | with_reducible exact below_drewN _ _ _))
    (first
      | (go_at_call 20; obtain ⟨hB, -⟩ := ‹Below w3.heap.size w3 _ ∧ _›; refine (HG2.out _ hB).mono ?_; rintro e wq ⟨rfl, hbq⟩; have HW2 : Hid (Below w3.heap.size w3 wq) := hB.trans (hbq.mono hB.size); clear hB hbq; dsimp only)
      | (go_at_call 13; obtain ⟨hB, -⟩ := ‹Below w3.heap.size w3 _ ∧ _›; (first | with_reducible refine (HX1.out _ (HBW.out _ hB)).mono ?_ | with_reducible refine (HX2.out _ hB).mono ?_); rintro e wq ⟨rfl, hbq⟩; have HW2 : Hid (Below w3.heap.size w3 wq) := hB.trans (hbq.mono hB.size); clear hB hbq; dsimp only))
  obtain ⟨V4, hV4⟩ : ∃ V4, V4 = wq := ⟨_, rfl⟩
  have HB4 : Hid (Below w3.heap.size w3 V4) := by rw [hV4]; exact HW2.out
  rw [← hV4]
  clear hV4 HW2 x0 x1 x2 z0 z1 z2 hxg
  have HNN := Lib.hid hn
  go_wp2
  go_loopw [11] (fun x wr => ∃ k : Nat, k ≤ n ∧ x = .int .i64 k ∧ Below w3.heap.size w3 wr) (fun x _ => n - (intOf x).toNat)
  case atStart => exact ⟨0, Nat.zero_le _, rfl, HB4.out⟩
  case round =>
    obtain ⟨k, hk, rfl, hb5⟩ := hrel
    have HB5 := Lib.hid hb5
    clear hb5
    rename World => V5
    by_cases hlt : k < n
    · have i1 : (k : Int) < (n : Int) := by omega
      have i2 : (0 : Int) ≤ (k : Int) := by omega
      have hkl : k < av.length := by have := HAL.out; omega
      have hkl' : k < av'.length := by have := HLEN.out; omega
      have i4 : (k : Int) < (av'.length : Int) := by omega
      obtain ⟨a0, hA, _, c0⟩ := (HRA.out V5 (HBW.out V5 HB5.out)).int hkl
      obtain ⟨a1, hA1, _, c1'⟩ := (HRA1.out V5 HB5.out).int hkl'
      have hu := good_av HGG.out.symm hkl
      have hv := HK.out.avs k hkl
      rw [getD_lt hkl] at hu
      rw [getD_lt hkl, getD_lt hkl'] at hv
      obtain ⟨u, hu'⟩ : ∃ u, u = av[k] := ⟨_, rfl⟩
      obtain ⟨v, hv'⟩ : ∃ v, v = av'[k] := ⟨_, rfl⟩
      rw [← hu'] at hu hv c0
      rw [← hv'] at hv c1'
      have hvb := good_av HK.out.good hkl'
      rw [getD_lt hkl', ← hv'] at hvb
      have HUV : Hid (u = v + dlt xa xi xq k 2) := by
        unfold dlt
        by_cases hkx : (k : Int) = xi
        · rw [if_pos hkx] at hv
          rw [if_pos ⟨hkx, by omega⟩]
          show u = v + xq
          omega
        · rw [if_neg hkx] at hv
          rw [if_neg (fun h => hkx h.1)]
          show u = v + 0
          omega
      clear hv hu' hv' hkl hkl'
      subst hA hA1
      have i3 : IntKind.i64.wrap ((k : Int) + 1) = (k : Int) + 1 := IntWalk.i64_in _ (by omega)
      go_upto_region 14 with (fail)
      go_quiet (fail)
      clear c0 c1'
      obtain ⟨V6, hV6⟩ : ∃ V6, V6 = V5.drewN nq := ⟨_, rfl⟩
      have HB6 : Hid (Below w3.heap.size w3 V6) := by rw [hV6]; exact HB5.out.trans ((below_drewN V5.heap.size V5 nq).mono HB5.out.size)
      rw [← hV6]
      clear hV6 HB5
      go_wp2
      go_loopw [12, 13, 14] (fun x y z wr => ∃ (k2 : Nat) (s t : Int), 2 ≤ k2 ∧ k2 ≤ 16 ∧ x = .int .i64 s ∧ y = .int .i64 t ∧ z = .int .i64 k2 ∧ (0 ≤ s ∧ s ≤ 1000000000 * (k2 : Int) ∧ 0 ≤ t ∧ t ≤ 1000000000 * (k2 : Int)) ∧ Hid (s = t + dlt xa xi xq k k2) ∧ Below w3.heap.size w3 wr) (fun _ _ z _ => 16 - (intOf z).toNat)
      case atStart => exact ⟨2, u, v, by omega, by omega, rfl, rfl, rfl, ⟨by omega, by omega, by omega, by omega⟩, HUV, HB6.out⟩
      case round =>
        obtain ⟨k2, s, t, hk2, hk3, rfl, rfl, rfl, hst, HST, hb7⟩ := hrel
        have HB7 := Lib.hid hb7
        clear hb7
        rename World => V7
        by_cases hl2 : k2 < 16
        · have j1 : (k2 : Int) < 16 := by omega
          obtain ⟨P, hP⟩ : ∃ P, P = heldL l k2 k := ⟨_, rfl⟩
          obtain ⟨Q, hQ⟩ : ∃ Q, Q = heldL l' k2 k := ⟨_, rfl⟩
          have hPb := good_held HGG.out.symm (k2 : Int) (k : Int)
          have hQb := good_held HK.out.good (k2 : Int) (k : Int)
          rw [← hP] at hPb
          rw [← hQ] at hQb
          have HPC : Hid (∀ V, Below W.heap.size W V → Calls Try.prog 13 #[.slice B m d, .int .i64 (k2 : Int), .int .i64 (k : Int)] V fun e w' => e = .returned (.int .i64 P) ∧ Below V.heap.size V w') := fun V hV => by rw [hP]; exact HH1.out V hV k2 k
          have HQC : Hid (∀ V, Below w3.heap.size w3 V → Calls Try.prog 13 #[.slice B1 l'.length d1, .int .i64 (k2 : Int), .int .i64 (k : Int)] V fun e w' => e = .returned (.int .i64 Q) ∧ Below V.heap.size V w') := fun V hV => by rw [hQ]; exact HH2.out V hV k2 k
          have HNX : Hid (s + P = t + Q + dlt xa xi xq k (k2 + 1)) := by
            refine dlt_step HST.out (fun e => ?_) (fun e => ?_)
            · have h2 := HHX.out
              have h3 := HHX0.out
              rw [← e.1, ← e.2, ← hQ] at h2
              rw [← e.1, ← e.2, ← hP] at h3
              rw [h2, h3]
            · rw [hP, hQ]
              exact HK.out.other k2 k e
          have HPQ : Hid (P ≠ Q → xa = (k2 : Int) ∧ xi = (k : Int)) := fun hne => by
            by_cases hkx : (k2 : Int) = xa ∧ (k : Int) = xi
            · exact ⟨hkx.1.symm, hkx.2.symm⟩
            · exact absurd (by rw [hP, hQ]; exact (HK.out.other k2 k hkx).symm) hne
          clear hP hQ
          have j2 : IntKind.i64.wrap (s + P) = s + P := IntWalk.i64_in _ (by omega)
          have j3 : IntKind.i64.wrap (t + Q) = t + Q := IntWalk.i64_in _ (by omega)
          have j4 : IntKind.i64.wrap ((k2 : Int) + 1) = (k2 : Int) + 1 := IntWalk.i64_in _ (by omega)
          go_wp2_with fail
          refine (HPC.out V7 (HBW.out V7 HB7.out)).mono ?_
          rintro e V8 ⟨rfl, hb8⟩
          have HB8 : Hid (Below w3.heap.size w3 V8) := HB7.out.trans (hb8.mono HB7.out.size)
          clear hb8
          go_wp2_with fail
          refine (HQC.out V8 HB8.out).mono ?_
          rintro e V9 ⟨rfl, hb9⟩
          have HB9 : Hid (Below w3.heap.size w3 V9) := HB8.out.trans (hb9.mono HB8.out.size)
          clear hb9
          obtain ⟨y0, y1, y2, z0, z1, z2, hxg⟩ := (HBV.out V9 (HBW.out V9 HB9.out)).three
          by_cases hpq : P = Q
          · subst hpq
            go_wp2
            refine ⟨⟨k2 + 1, s + P, t + P, by omega, by omega, rfl, rfl, by push_cast; rfl, ⟨by omega, by push_cast; omega, by omega, by push_cast; omega⟩, HNX, HB9.out⟩, by simp only [intOf]; omega⟩
          · obtain ⟨e1, e2⟩ := HPQ.out hpq
            subst e1 e2
            go_wp2
            refine ⟨⟨k2 + 1, s + P, t + Q, by omega, by omega, rfl, rfl, by push_cast; rfl, ⟨by omega, by push_cast; omega, by omega, by push_cast; omega⟩, HNX, HB9.out⟩, by simp only [intOf]; omega⟩
        · have hk16 : k2 = 16 := by omega
          subst hk16
          have hst' : s = t := by
            have h1 := HST.out
            unfold dlt at h1
            rw [if_neg (by omega)] at h1
            omega
          subst hst'
          go_wp2
          exact ⟨⟨k + 1, by omega, by push_cast; rfl, HB7.out⟩, by simp only [intOf]; omega⟩
    · have i3 : ¬ ((k : Int) < (n : Int)) := by omega
      obtain ⟨x0, x1, x2, z0, z1, z2, hxg⟩ := (HBV.out V5 (HBW.out V5 HB5.out)).three
      go_wp2_with fail
      refine (HR2.out V5 HB5.out).mono ?_
      rintro e w6 ⟨A4, c4, B4, d4, rfl, hc4, hm4, hd4, hn4, ho4, hp4, hb6⟩
      dsimp only at hc4 hd4 ho4 hp4 ⊢
      have HB6 : Hid (Below w3.heap.size w3 w6) := HB5.out.trans (hb6.mono HB5.out.size)
      clear x0 x1 x2 z0 z1 z2 hxg hb6
      have HSAME : Hid (∀ V, Below w6.heap.size w6 V → Calls Try.prog 12 #[.slice A4 av.length c4, .slice A n c] V fun e w' => e = .returned (.bool true) ∧ ∃ m, w' = V.drewN m) := fun V hV => by
        rw [HAL.out]
        refine sameInts_any A4 A n c4 c av V HAL.out (by unfold maxLen; have := HNN.out; omega) ?_ (HRA.out V (HBW.out V (HB6.out.trans (hV.mono HB6.out.size))))
        have := ((Rd.of_own ho4).below hV).mono hV.size
        rwa [HAL.out] at this
      have HSAME2 : Hid (∀ V, Below w6.heap.size w6 V → Calls Try.prog 17 #[.slice B4 l.length d4, .slice B m d] V fun e w' => e = .returned (.bool true) ∧ ∃ m, w' = V.drewN m) := fun V hV => by
        rw [HLL.out]
        refine same_any B4 B m d4 d l V HLL.out (by unfold maxLen; omega) ?_ (HRL.out V (HBW.out V (HB6.out.trans (hV.mono HB6.out.size))))
        have := ((Rd.of_own hp4).below hV).mono hV.size
        rwa [HLL.out] at this
      clear hc4 hm4 hd4 hn4 ho4 hp4
      go_wp2_with fail
      refine (HSAME.out w6 (Below.refl _ _)).mono ?_
      rintro e w8 ⟨rfl, q8, rfl⟩
      go_wp2_with fail
      refine (HSAME2.out _ (below_drewN _ _ _)).mono ?_
      rintro e w9 ⟨rfl, q9, rfl⟩
      go_wp2
      go_ret
      refine ⟨rfl, HFIN.out _ (HBW.out _ ?_)⟩
      have h7 := HB6.out
      exact ⟨h7.os, h7.tape, h7.output, h7.size, h7.block⟩

end Go.Proofs.Ytboehkcpgmpjjaa
