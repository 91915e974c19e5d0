/- Walks: what can be: the closure, IndexFunc, ContainsFunc. By gen_g.py. -/
import Derived.Test.YtiapbgbbeakoiaaOX
namespace Go.Proofs.Ytiapbgbbeakoiaa.O
open Go.RowKit

/-- One that can be. -/
def okB (ac nc : Int) (x : Lc) : Bool := decide (1 < x.acct ∧ x.acct < ac ∧ 1 ≤ x.id ∧ x.id ≤ 1099511627776 ∧ 0 ≤ x.instr ∧ x.instr < nc ∧ x.qty ≠ 0 ∧ -1000000000 ≤ x.qty ∧ x.qty ≤ 1000000000 ∧ 1 ≤ x.price ∧ x.price ≤ 100000000000000)
def goodB (ac nc : Int) (l : List Lc) : Bool := decide (l.length ≤ 32) && (riseB l && l.all (okB ac nc))

set_option maxHeartbeats 2000000 in
theorem bad_any (x : Lc) (ac nc : Int) (b1 b2 : Nat) (w : World) (h1 : w.cell? ⟨b1, 0, none⟩ = some (.int .i64 ac)) (h2 : w.cell? ⟨b2, 0, none⟩ = some (.int .i64 nc)) :
    Calls Try.prog 49 #[x.val, .pointer (some ⟨b1, 0, none⟩), .pointer (some ⟨b2, 0, none⟩)] w fun e w' => e = .returned (.bool (!okB ac nc x)) ∧ Below w.heap.size w w' := by
  obtain ⟨yac, yid, yin, yqt, ypr⟩ := x
  have hok : okB ac nc ⟨yac, yid, yin, yqt, ypr⟩ = decide (1 < yac ∧ yac < ac ∧ 1 ≤ yid ∧ yid ≤ 1099511627776 ∧ 0 ≤ yin ∧ yin < nc ∧ yqt ≠ 0 ∧ -1000000000 ≤ yqt ∧ yqt ≤ 1000000000 ∧ 1 ≤ ypr ∧ ypr ≤ 100000000000000) := rfl
  rw [hok]
  obtain ⟨r, hr⟩ : ∃ r, r = !decide (1 < yac ∧ yac < ac ∧ 1 ≤ yid ∧ yid ≤ 1099511627776 ∧ 0 ≤ yin ∧ yin < nc ∧ yqt ≠ 0 ∧ -1000000000 ≤ yqt ∧ yqt ≤ 1000000000 ∧ 1 ≤ ypr ∧ ypr ≤ 100000000000000) := ⟨_, rfl⟩
  rw [← hr]
  have HR := Lib.hid hr
  have g1 := World.block_lt_of_cell? _ _ h1
  have g2 := World.block_lt_of_cell? _ _ h2
  dsimp only at g1 g2
  obtain ⟨W, hW⟩ : ∃ W, W = w.alloc (.cells #[.int .i64 yac, .int .i64 yid, .int .i64 yin, .int .i64 yqt, .int .i64 ypr] 38) := ⟨_, rfl⟩
  obtain ⟨bx, hbx⟩ : ∃ bx, bx = w.heap.size := ⟨_, rfl⟩
  have HBX : Hid (Bk W bx 38 #[.int .i64 yac, .int .i64 yid, .int .i64 yin, .int .i64 yqt, .int .i64 ypr]) := by rw [hW, hbx]; exact Bk.new _ _ _
  have HB : Hid (Below w.heap.size w W) := by rw [hW]; exact (Below.refl _ w).alloc (Nat.le_refl _) _
  have kc1 : W.cell? ⟨b1, 0, none⟩ = some (.int .i64 ac) := (HB.out.cell (p := ⟨b1, 0, none⟩) g1).trans h1
  have kc2 : W.cell? ⟨b2, 0, none⟩ = some (.int .i64 nc) := (HB.out.cell (p := ⟨b2, 0, none⟩) g2).trans h2
  clear hok hr g1 g2 h1 h2
  unfold Lc.val
  go_enter Try.func49, Try.ntmps49
  go_upto_region 1 with (fail)
  rw [← hW, ← hbx]
  clear hW hbx
  obtain ⟨x0, x1, x2, x3, x4, z0, z1, z2, z3, z4, hxg⟩ := HBX.out.five
  go_wp2_with fail
  refine (trades_any yac ac W).mono ?_
  rintro e W0 ⟨rfl, rfl⟩
  by_cases ht : tradesB yac ac = true
  case neg =>
    have ht' : ¬ (1 < yac ∧ yac < ac) := fun h => ht (decide_eq_true h)
    have e : r = true := by rw [HR.out, decide_eq_false (by omega)]; rfl
    have htf : tradesB yac ac = false := by simpa using ht
    subst e
    rw [htf]
    clear ht htf ht'
    go_wp2
    go_ret
    exact ⟨rfl, HB.out⟩
  have ht1 : 1 < yac ∧ yac < ac := of_decide_eq_true (show decide (1 < yac ∧ yac < ac) = true from ht)
  rw [ht]
  have HT := Lib.hid ht1
  clear ht ht1
  by_cases k0 : yid < 1
  · have e : r = true := by rw [HR.out, decide_eq_false (by omega)]; rfl
    subst e
    go_wp2
    go_ret
    exact ⟨rfl, HB.out⟩
  by_cases k1 : 1099511627776 < yid
  · have e : r = true := by rw [HR.out, decide_eq_false (by omega)]; rfl
    subst e
    go_wp2
    go_ret
    exact ⟨rfl, HB.out⟩
  by_cases k2 : yin < 0
  · have e : r = true := by rw [HR.out, decide_eq_false (by omega)]; rfl
    subst e
    go_wp2
    go_ret
    exact ⟨rfl, HB.out⟩
  by_cases k3 : nc ≤ yin
  · have e : r = true := by rw [HR.out, decide_eq_false (by omega)]; rfl
    subst e
    go_wp2
    go_ret
    exact ⟨rfl, HB.out⟩
  go_wp2_with fail
  refine (fits_any yqt W0).mono ?_
  rintro e W1 ⟨rfl, rfl⟩
  by_cases hf : fitsN yqt = true
  case neg =>
    have hf' : ¬ (yqt ≠ 0 ∧ -1000000000 ≤ yqt ∧ yqt ≤ 1000000000) := fun h => hf (decide_eq_true h)
    have e : r = true := by rw [HR.out, decide_eq_false (by omega)]; rfl
    have hff : fitsN yqt = false := by simpa using hf
    subst e
    rw [hff]
    clear hf hff hf'
    go_wp2
    go_ret
    exact ⟨rfl, HB.out⟩
  have hf1 : yqt ≠ 0 ∧ -1000000000 ≤ yqt ∧ yqt ≤ 1000000000 := of_decide_eq_true (show decide (yqt ≠ 0 ∧ -1000000000 ≤ yqt ∧ yqt ≤ 1000000000) = true from hf)
  rw [hf]
  have HF := Lib.hid hf1
  clear hf hf1
  by_cases k5 : ypr < 1
  · have e : r = true := by rw [HR.out, decide_eq_false (by omega)]; rfl
    subst e
    go_wp2
    go_ret
    exact ⟨rfl, HB.out⟩
  by_cases k6 : 100000000000000 < ypr
  · have e : r = true := by rw [HR.out, decide_eq_false (by omega)]; rfl
    subst e
    go_wp2
    go_ret
    exact ⟨rfl, HB.out⟩
  have e : r = false := by have q0 := HT.out; have q1 := HF.out; rw [HR.out, decide_eq_true (by omega)]; rfl
  subst e
  go_wp2
  go_ret
  exact ⟨by simp [k0, k1, k2, k3, k5, k6], HB.out⟩

/-- The first bad one's place, or -1. -/
def badL (ac nc : Int) (l : List Lc) : Int := if (l.findIdx fun x => !okB ac nc x) < l.length then ((l.findIdx fun x => !okB ac nc x : Nat) : Int) else -1
theorem badL_hit {l : List Lc} {ac nc : Int} {k : Nat} (hk : k < l.length) (hpre : ∀ j, j < k → (!okB ac nc (l.getD j default)) = false) (h : (!okB ac nc (l.getD k default)) = true) : badL ac nc l = (k : Int) := by
  have e : l.findIdx (fun x => !okB ac nc x) = k := by
    rw [List.findIdx_eq hk]
    rw [getD_lt hk] at h
    refine ⟨h, fun j hj => ?_⟩
    have := hpre j hj
    rw [getD_lt (by omega)] at this
    simpa using this
  unfold badL
  rw [e, if_pos hk]
theorem badL_none {l : List Lc} {ac nc : Int} (hpre : ∀ j, j < l.length → (!okB ac nc (l.getD j default)) = false) : badL ac nc l = -1 := by
  have e : l.findIdx (fun x => !okB ac nc x) = l.length := by
    rw [List.findIdx_eq_length]
    intro x hx
    obtain ⟨j, hj, rfl⟩ := List.mem_iff_getElem.1 hx
    have := hpre j hj
    rwa [getD_lt hj] at this
  unfold badL
  rw [e, if_neg (Nat.lt_irrefl _)]
theorem badL_ge (l : List Lc) (ac nc : Int) : (0 ≤ badL ac nc l) ↔ l.all (okB ac nc) = false := by
  unfold badL
  by_cases h : (l.findIdx fun x => !okB ac nc x) < l.length
  · rw [if_pos h]
    have h1 := List.findIdx_getElem (xs := l) (p := fun x => !okB ac nc x) (w := h)
    refine ⟨fun _ => ?_, fun _ => by omega⟩
    cases hh : l.all (okB ac nc) with
    | false => rfl
    | true =>
      rw [List.all_eq_true.1 hh _ (List.getElem_mem h)] at h1
      cases h1
  · rw [if_neg h]
    refine ⟨fun h0 => by omega, fun h0 => ?_⟩
    exfalso
    have h1 : l.findIdx (fun x => !okB ac nc x) = l.length := Nat.le_antisymm List.findIdx_le_length (by omega)
    rw [List.findIdx_eq_length] at h1
    have : l.all (okB ac nc) = true := List.all_eq_true.2 fun x hx => by simpa using h1 x hx
    rw [this] at h0
    cases h0

set_option maxHeartbeats 1000000 in
theorem indexB_any (A : Option Addr) (n c : Nat) (l : List Lc) (ac nc : Int) (b1 b2 : Nat) (w : World) (hn : n ≤ maxLen) (hr : Rd w w.heap.size 5 A n (lcs l)) (h1 : Bk w b1 3 #[.int .i64 ac]) (h2 : Bk w b2 3 #[.int .i64 nc]) :
    Calls Try.prog 52 #[.slice A n c, .func (.func 49) #[] #[.pointer (some ⟨b1, 0, none⟩), .pointer (some ⟨b2, 0, none⟩)]] w fun e w' => e = .returned (.int .i64 (badL ac nc l)) ∧ Below w.heap.size w w' := by
  have hl : l.length = n := by have := hr.1; rw [lcs_len] at this; omega
  have HL := Lib.hid hl
  have HR := Lib.hid hr
  have H1 := Lib.hid h1
  have H2 := Lib.hid h2
  clear hl hr h1 h2
  unfold maxLen at hn
  obtain ⟨r, hres⟩ : ∃ r, r = badL ac nc l := ⟨_, rfl⟩
  rw [← hres]
  have HE := Lib.hid hres
  clear hres
  go_enter Try.func52, Try.ntmps52
  go_wp2
  go_loopw [5, 8] (fun u v wr => ∃ k : Nat, k ≤ n ∧ v = .int .i64 k ∧ (∀ j, j < k → (!okB ac nc (l.getD j default)) = false) ∧ Below w.heap.size w wr) (fun _ v _ => n - (intOf v).toNat)
  case atStart => exact ⟨0, Nat.zero_le _, rfl, fun j hj => absurd hj (Nat.not_lt_zero _), Below.refl _ _⟩
  case round =>
    obtain ⟨k, hk, rfl, hpre, hb⟩ := hrel
    have HP := Lib.hid hpre
    have HB := Lib.hid hb
    clear hpre hb
    rename World => V
    by_cases hlt : k < n
    · have hkl : k < l.length := by have := HL.out; omega
      obtain ⟨a0, hA, hb0, c0, c1, c2, c3, c4⟩ := rd_loc (HR.out.below HB.out) hkl
      subst hA
      obtain ⟨⟨yac, yid, yin, yqt, ypr⟩, hx⟩ : ∃ x, x = l[k] := ⟨_, rfl⟩
      rw [← hx] at c0 c1 c2 c3 c4
      have HX : Hid (l.getD k default = ⟨yac, yid, yin, yqt, ypr⟩) := by rw [hx]; exact getD_lt hkl
      dsimp only at c0 c1 c2 c3 c4
      clear hx hb0
      have i1 : (k : Int) < (n : Int) := by omega
      have i2 : (0 : Int) ≤ (k : Int) := by omega
      have i3 : IntKind.i64.wrap ((k : Int) + 1) = (k : Int) + 1 := IntWalk.i64_in _ (by omega)
      have k1 := ((H1.out.below HB.out H1.out.lt).one).1
      have k2 := ((H2.out.below HB.out H2.out.lt).one).1
      have hc := bad_any ⟨yac, yid, yin, yqt, ypr⟩ ac nc b1 b2 V k1 k2
      rw [← HX.out] at hc
      obtain ⟨rb, hrb⟩ : ∃ rb, rb = (!okB ac nc (l.getD k default)) := ⟨_, rfl⟩
      rw [← hrb] at hc
      rw [HX.out] at hc
      unfold Lc.val at hc
      have HC := Lib.hid hc
      have HRB := Lib.hid hrb
      clear hc hrb k1 k2
      go_wp2_with fail
      refine HC.out.mono ?_
      rintro e w2 ⟨rfl, hb2⟩
      have HB2 : Hid (Below w.heap.size w w2) := HB.out.trans (hb2.mono HB.out.size)
      clear hb2 c0 c1 c2 c3 c4
      cases rb with
      | true =>
        have e : r = (k : Int) := by rw [HE.out, badL_hit hkl HP.out HRB.out.symm]
        subst e
        go_wp2
        go_ret
        exact ⟨rfl, HB2.out⟩
      | false =>
        go_wp2
        refine ⟨⟨k + 1, by omega, by push_cast; rfl, fun j hj => ?_, HB2.out⟩, by simp only [intOf]; omega⟩
        rcases Nat.lt_or_eq_of_le (Nat.lt_succ_iff.1 hj) with h1 | rfl
        · exact HP.out j h1
        · exact HRB.out.symm
    · have i3 : ¬ ((k : Int) < (n : Int)) := by omega
      have hkn : k = n := by omega
      have e : r = -1 := by
        rw [HE.out]
        exact badL_none fun j hj => HP.out j (by have := HL.out; omega)
      subst e
      go_wp2
      go_ret
      exact ⟨rfl, HB.out⟩

set_option maxHeartbeats 1000000 in
theorem contains_any (A : Option Addr) (n c : Nat) (l : List Lc) (ac nc : Int) (b1 b2 : Nat) (w : World) (hn : n ≤ maxLen) (hr : Rd w w.heap.size 5 A n (lcs l)) (h1 : Bk w b1 3 #[.int .i64 ac]) (h2 : Bk w b2 3 #[.int .i64 nc]) :
    Calls Try.prog 51 #[.slice A n c, .func (.func 49) #[] #[.pointer (some ⟨b1, 0, none⟩), .pointer (some ⟨b2, 0, none⟩)]] w fun e w' => e = .returned (.bool (!l.all (okB ac nc))) ∧ Below w.heap.size w w' := by
  have HI := Lib.hid (indexB_any A n c l ac nc b1 b2 w hn hr h1 h2)
  have hg := badL_ge l ac nc
  obtain ⟨j, hj⟩ : ∃ j, j = badL ac nc l := ⟨_, rfl⟩
  rw [← hj] at HI hg
  obtain ⟨b, hb⟩ : ∃ b, b = l.all (okB ac nc) := ⟨_, rfl⟩
  rw [← hb] at hg ⊢
  clear hj hb hr h1 h2 hn
  go_enter Try.func51, Try.ntmps51
  go_wp2_with fail
  refine HI.out.mono ?_
  rintro e w1 ⟨rfl, hb1⟩
  by_cases h0 : 0 ≤ j
  · have e : b = false := hg.1 h0
    subst e
    clear hg
    go_wp2
    go_ret
    exact ⟨rfl, hb1⟩
  · have e : b = true := by cases b with
      | true => rfl
      | false => exact absurd (hg.2 rfl) h0
    subst e
    clear hg
    go_wp2
    go_ret
    exact ⟨by simp [h0], hb1⟩

end Go.Proofs.Ytiapbgbbeakoiaa.O
