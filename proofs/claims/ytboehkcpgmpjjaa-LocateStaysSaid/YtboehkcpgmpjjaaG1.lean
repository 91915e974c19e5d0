/- Walks: Good, the program's and the document's. By gen_g1.py. -/
import Derived.Test.YtboehkcpgmpjjaaE1
namespace Go.Proofs.Ytboehkcpgmpjjaa
open Go.RowKit

theorem unfit_any (q : Int) (w : World) : Calls Try.prog 31 #[.int .i64 q] w fun e w' => e = .returned (.bool (!fitsQ q)) ∧ w' = w := by
  obtain ⟨r, hr⟩ : ∃ r, r = !fitsQ q := ⟨_, rfl⟩
  rw [← hr]
  have HR := Lib.hid hr
  clear hr
  go_enter Try.func31, Try.ntmps31
  by_cases h1 : q < 0
  · have e : r = true := by rw [HR.out]; simp [fitsQ]; omega
    subst e
    go_wp2
    go_ret
    exact ⟨rfl, rfl⟩
  by_cases h2 : 1000000000 < q
  · have e : r = true := by rw [HR.out]; simp [fitsQ]; omega
    subst e
    go_wp2
    go_ret
    exact ⟨rfl, rfl⟩
  · have e : r = false := by rw [HR.out]; simp [fitsQ]; omega
    subst e
    go_wp2
    go_ret
    exact ⟨rfl, rfl⟩

/-- Whether all fit, as IndexFunc says it. -/
def AllFit (av : List Int) (r : Int) : Prop := (av.all fitsQ = true ∧ r < 0) ∨ (av.all fitsQ = false ∧ 0 ≤ r)

theorem index_any (A : Option Addr) (n c : Nat) (av : List Int) (w : World) (hn : n ≤ maxLen) (hra : Rd w w.heap.size 1 A n (ints av)) :
    Calls Try.prog 36 #[.slice A n c, .func (.func 31) #[] #[]] w fun e w' => (∃ r : Int, e = .returned (.int .i64 r) ∧ AllFit av r) ∧ w' = w := by
  have hl : av.length = n := by have := hra.1; rw [ints_len] at this; omega
  have HL := Lib.hid hl
  have HRA := Lib.hid hra
  clear hl hra
  unfold maxLen at hn
  go_enter Try.func36, Try.ntmps36
  go_wp2
  go_loopw [8] (fun v wr => ∃ k : Nat, k ≤ n ∧ v = .int .i64 k ∧ (av.take k).all fitsQ = true ∧ w = wr) (fun v _ => n - (intOf v).toNat)
  case atStart => exact ⟨0, Nat.zero_le _, rfl, rfl, rfl⟩
  case round =>
    obtain ⟨k, hk, rfl, hpre, hbv⟩ := hrel
    subst hbv
    have HP := Lib.hid hpre
    clear hpre
    by_cases hlt : k < n
    · have hkl : k < av.length := by have := HL.out; omega
      obtain ⟨a0, hA, _, c0⟩ := HRA.out.int hkl
      obtain ⟨v, hv⟩ : ∃ v, v = av[k] := ⟨_, rfl⟩
      rw [← hv] at c0
      have HV := Lib.hid hv
      subst hA
      clear hv
      have i1 : (k : Int) < (n : Int) := by omega
      have i2 : (0 : Int) ≤ (k : Int) := by omega
      have i3 : IntKind.i64.wrap ((k : Int) + 1) = (k : Int) + 1 := IntWalk.i64_in _ (by omega)
      obtain ⟨b, hb⟩ : ∃ b, b = !fitsQ v := ⟨_, rfl⟩
      have hu := unfit_any v w
      rw [← hb] at hu
      have HU := Lib.hid hu
      have HBB := Lib.hid hb
      clear hu hb
      go_wp2_with fail
      refine HU.out.mono ?_
      rintro e w' ⟨rfl, hw'⟩
      subst hw'
      cases b with
      | false =>
        go_wp2
        refine ⟨⟨k + 1, by omega, by push_cast; rfl, ?_, by first | rfl | trivial⟩, by simp only [intOf]; omega⟩
        have hf : fitsQ v = true := by have := HBB.out; simpa using this.symm
        rw [List.take_add_one, List.getElem?_eq_getElem hkl, List.all_append, HP.out, ← HV.out]
        simp [hf]
      | true =>
        have hf : fitsQ v = false := by have := HBB.out; simpa using this.symm
        have hall : av.all fitsQ = false := by
          cases h : av.all fitsQ with
          | false => rfl
          | true => rw [HV.out, List.all_eq_true.1 h _ (List.getElem_mem hkl)] at hf; cases hf
        go_wp2
        go_ret
        exact ⟨⟨k, rfl, .inr ⟨hall, i2⟩⟩, rfl⟩
    · have i3 : ¬ ((k : Int) < (n : Int)) := by omega
      have hall : av.all fitsQ = true := by
        have := HP.out
        rwa [List.take_of_length_le (by have := HL.out; omega)] at this
      go_wp2
      go_ret
      exact ⟨⟨-1, rfl, .inl ⟨hall, by omega⟩⟩, rfl⟩

theorem contains_any (A : Option Addr) (n c : Nat) (av : List Int) (w : World) (hn : n ≤ maxLen) (hra : Rd w w.heap.size 1 A n (ints av)) :
    Calls Try.prog 30 #[.slice A n c, .func (.func 31) #[] #[]] w fun e w' => e = .returned (.bool (!av.all fitsQ)) ∧ w' = w := by
  obtain ⟨b, hb⟩ : ∃ b, b = !av.all fitsQ := ⟨_, rfl⟩
  have hi := index_any A n c av w hn hra
  rw [← hb]
  have HI := Lib.hid hi
  have HBB := Lib.hid hb
  clear hi hb hra
  go_enter Try.func30, Try.ntmps30
  go_wp2_with fail
  refine HI.out.mono ?_
  rintro e w' ⟨⟨r, rfl, hd⟩, hw'⟩
  subst hw'
  have HD := Lib.hid hd
  clear hd
  by_cases h0 : 0 ≤ r
  · have e : b = true := by
      rcases HD.out with ⟨_, h⟩ | ⟨h, _⟩
      · omega
      · rw [HBB.out, h]; rfl
    subst e
    go_wp2
    go_ret
    exact ⟨rfl, rfl⟩
  · have e : b = false := by
      rcases HD.out with ⟨h, _⟩ | ⟨_, h⟩
      · rw [HBB.out, h]; rfl
      · omega
    subst e
    go_wp2
    go_ret
    first
      | exact ⟨rfl, rfl⟩
      | (refine ⟨?_, rfl⟩; show Ending.returned (Value.bool (decide (0 ≤ r))) = _; rw [decide_eq_false (by omega)])

def bothAt (a n : Int) (l : List Lc) (j : Nat) : Bool := tidyAt l j && inAt a n l j
theorem upto_both (a n : Int) (l : List Lc) (k : Nat) : upto (bothAt a n l) k = (upto (tidyAt l) k && upto (inAt a n l) k) := by
  induction k with
  | zero => rfl
  | succ k ih => rw [upto_succ, upto_succ, upto_succ, ih]; unfold bothAt; cases upto (tidyAt l) k <;> cases upto (inAt a n l) k <;> cases tidyAt l k <;> cases inAt a n l k <;> rfl
theorem goodB_eq (av : List Int) (l : List Lc) (a n : Int) : goodB av l a n = (decide ((av.length : Int) = n ∧ l.length ≤ 32) && (av.all fitsQ && upto (bothAt a n l) l.length)) := by
  unfold goodB tidyB
  rw [upto_both]
  cases av.all fitsQ <;> cases upto (tidyAt l) l.length <;> cases upto (inAt a n l) l.length <;> rfl

theorem both_false (ac nc : Int) (l : List Lc) (j : Nat) (xa xi xq : Int) (hx : l.getD j default = ⟨xa, xi, xq⟩) (h : ¬ (2 ≤ xa ∧ xa < ac ∧ 0 ≤ xi ∧ xi < nc ∧ xq ≠ 0 ∧ 0 ≤ xq ∧ xq ≤ 1000000000)) : bothAt ac nc l j = false := by
  unfold bothAt tidyAt inAt
  rw [hx]
  dsimp only
  by_cases h1 : 0 ≤ xq ∧ xq ≤ 1000000000
  · rw [decide_eq_false (show ¬ (2 ≤ xa ∧ xa < ac ∧ 0 ≤ xi ∧ xi < nc ∧ xq ≠ 0) by omega), Bool.and_false]
  · have e : fitsQ xq = false := decide_eq_false h1
    rw [e]
    rfl

set_option maxHeartbeats 8000000 in
theorem good_any (A B : Option Addr) (n c m d : Nat) (av : List Int) (l : List Lc) (ac nc : Int) (w : World) (hn : n ≤ maxLen) (hm : m ≤ maxLen) (hra : Rd w w.heap.size 1 A n (ints av)) (hrl : Rd w w.heap.size 3 B m (lcs l)) :
    Calls Try.prog 20 #[.slice A n c, .slice B m d, .int .i64 ac, .int .i64 nc] w fun e w' => e = .returned (.bool (goodB av l ac nc)) ∧ Below w.heap.size w w' := by
  have hl : av.length = n := by have := hra.1; rw [ints_len] at this; omega
  have hlm : l.length = m := by have := hrl.1; rw [lcs_len] at this; omega
  obtain ⟨r, hr⟩ : ∃ r, r = goodB av l ac nc := ⟨_, rfl⟩
  rw [← hr]
  rw [goodB_eq] at hr
  have HR := Lib.hid hr
  have HLA := Lib.hid hl
  have HLM := Lib.hid hlm
  have HRA := Lib.hid hra
  have HRL := Lib.hid hrl
  clear hr hl hlm hra hrl
  unfold maxLen at hn hm
  go_enter Try.func20, Try.ntmps20
  by_cases h1 : (n : Int) = nc
  case neg =>
    have e : r = false := by rw [HR.out, HLA.out, decide_eq_false (fun h => h1 h.1)]; rfl
    subst e
    go_wp2
    go_ret
    exact ⟨rfl, Below.refl _ _⟩
  by_cases h2 : 32 < m
  · have e : r = false := by rw [HR.out, HLM.out, decide_eq_false (fun h => by omega)]; rfl
    subst e
    have i1 : (32 : Int) < (m : Int) := by omega
    go_wp2
    go_ret
    exact ⟨rfl, Below.refl _ _⟩
  have i1 : ¬ ((32 : Int) < (m : Int)) := by omega
  have hr2 : Hid (r = (av.all fitsQ && upto (bothAt ac nc l) l.length)) := Lib.hid (by rw [HR.out, HLA.out, HLM.out, decide_eq_true ⟨h1, by omega⟩]; rfl)
  clear HR
  go_wp2_with fail
  refine (contains_any A n c av w (by unfold maxLen; omega) HRA.out).mono ?_
  rintro e w1 ⟨rfl, hw1⟩
  subst hw1
  by_cases ha : av.all fitsQ = true
  case neg =>
    have ha' : av.all fitsQ = false := by simpa using ha
    have e : r = false := by rw [hr2.out, ha']; rfl
    subst e
    rw [ha']
    go_wp2
    go_ret
    exact ⟨rfl, Below.refl _ _⟩
  have hr3 : Hid (r = upto (bothAt ac nc l) l.length) := Lib.hid (by rw [hr2.out, ha]; rfl)
  rw [ha]
  clear ha hr2
  rename World => w
  have HB1 : Hid (Below w.heap.size w w) := Below.refl _ _
  have hnk : ∀ j, j < m → bothAt ac nc l j = false → r = false := fun j hj h => by rw [hr3.out]; exact upto_false (by have := HLM.out; omega) h
  have HNK := Lib.hid hnk
  clear hnk
  go_wp2
  go_loopw [26] (fun v wr => ∃ k : Nat, k ≤ m ∧ v = .int .i64 k ∧ upto (bothAt ac nc l) k = true ∧ Below w.heap.size w wr) (fun v _ => m - (intOf v).toNat)
  case atStart => exact ⟨0, Nat.zero_le _, rfl, rfl, HB1.out⟩
  case round =>
    obtain ⟨j, hj, rfl, hpre, hbv⟩ := hrel
    rename World => V2
    have HP2 := Lib.hid hpre
    have HB2 := Lib.hid hbv
    clear hpre hbv
    by_cases hlt : j < m
    · have hjl : j < l.length := by have := HLM.out; omega
      obtain ⟨a0, hA, _, c0, c1, c2⟩ := (HRL.out.below HB2.out).loc hjl
      obtain ⟨⟨xa, xi, xq⟩, hx⟩ : ∃ x, x = l[j] := ⟨_, rfl⟩
      rw [← hx] at c0 c1 c2
      have HX : Hid (l.getD j default = ⟨xa, xi, xq⟩) := by rw [hx]; exact getD_lt hjl
      dsimp only at c0 c1 c2
      subst hA
      clear hx
      have i1 : (j : Int) < (m : Int) := by omega
      have i2 : (0 : Int) ≤ (j : Int) := by omega
      have i4 : IntKind.i64.wrap ((j : Int) + 1) = (j : Int) + 1 := IntWalk.i64_in _ (by omega)
      obtain ⟨V3, hV3⟩ : ∃ V3, V3 = V2.alloc (.cells #[.int .i64 xa, .int .i64 xi, .int .i64 xq] 39) := ⟨_, rfl⟩
      obtain ⟨bx, hbx⟩ : ∃ bx, bx = V2.heap.size := ⟨_, rfl⟩
      have HBX : Hid (Bk V3 bx 39 #[.int .i64 xa, .int .i64 xi, .int .i64 xq]) := by rw [hV3, hbx]; exact Bk.new _ _ _
      have HB3 : Hid (Below w.heap.size w V3) := by rw [hV3]; exact HB2.out.alloc HB2.out.size _
      go_upto_region 6 with (fail)
      rw [← hV3, ← hbx]
      clear hV3 hbx c0 c1 c2
      obtain ⟨x0, x1, x2, z0, z1, z2, hxg⟩ := HBX.out.three
      have hyes : bothAt ac nc l j = true → upto (bothAt ac nc l) (j + 1) = true := fun h => by rw [upto_succ, HP2.out, h]; rfl
      have HYES := Lib.hid hyes
      clear hyes
      by_cases k0 : xa ≤ 1
      · have e : r = false := HNK.out j hlt (both_false _ _ _ _ _ _ _ HX.out (by omega))
        subst e
        go_wp2
        go_ret
        exact ⟨rfl, HB3.out⟩
      by_cases k1 : ac ≤ xa
      · have e : r = false := HNK.out j hlt (both_false _ _ _ _ _ _ _ HX.out (by omega))
        subst e
        go_wp2
        go_ret
        exact ⟨rfl, HB3.out⟩
      by_cases k2 : xi < 0
      · have e : r = false := HNK.out j hlt (both_false _ _ _ _ _ _ _ HX.out (by omega))
        subst e
        go_wp2
        go_ret
        exact ⟨rfl, HB3.out⟩
      by_cases k3 : nc ≤ xi
      · have e : r = false := HNK.out j hlt (both_false _ _ _ _ _ _ _ HX.out (by omega))
        subst e
        go_wp2
        go_ret
        exact ⟨rfl, HB3.out⟩
      by_cases k4 : xq < 1
      · have e : r = false := HNK.out j hlt (both_false _ _ _ _ _ _ _ HX.out (by omega))
        subst e
        go_wp2
        go_ret
        exact ⟨rfl, HB3.out⟩
      by_cases k5 : 1000000000 < xq
      · have e : r = false := HNK.out j hlt (both_false _ _ _ _ _ _ _ HX.out (by omega))
        subst e
        go_wp2
        go_ret
        exact ⟨rfl, HB3.out⟩
      have hb : ∀ o, ordAt l j = o → bothAt ac nc l j = o := fun o ho => by
        unfold bothAt tidyAt inAt
        rw [ho, HX.out]
        have e1 : fitsQ xq = true := by simp [fitsQ]; omega
        dsimp only
        rw [e1, decide_eq_true (by omega), Bool.true_and, Bool.and_true]
      have HBO := Lib.hid hb
      clear hb
      rcases j with _ | j
      · simp only [Int.natCast_zero] at *
        go_upto_region 8 with (fail)
        go_quiet (fail)
        go_wp2
        exact ⟨⟨1, by omega, rfl, HYES.out (HBO.out true (by simp [ordAt])), ⟨HB3.out.os, HB3.out.tape, HB3.out.output, HB3.out.size, HB3.out.block⟩⟩, by simp only [intOf]; omega⟩
      have hj0 : j < l.length := by omega
      obtain ⟨a1, hA1, _, d0, d1, d2⟩ := (HRL.out.below HB3.out).loc hj0
      have e1 : a1 = a0 := (Option.some.inj hA1).symm
      subst e1
      obtain ⟨⟨ya, yi, yq⟩, hy⟩ : ∃ y, y = l[j] := ⟨_, rfl⟩
      rw [← hy] at d0 d1 d2
      have HY : Hid (l.getD j default = ⟨ya, yi, yq⟩) := by rw [hy]; exact getD_lt hj0
      dsimp only at d0 d1 d2
      clear hy hA1
      have hord : Hid (ordAt l (j + 1) = decide (cmpL ⟨ya, yi, yq⟩ ⟨xa, xi, xq⟩ < 0)) := by
        unfold ordAt
        rw [Nat.add_sub_cancel, HX.out, HY.out]
        exact decide_eq_decide.2 (by omega)
      obtain ⟨cr, hcr⟩ : ∃ cr, cr = cmpL ⟨ya, yi, yq⟩ ⟨xa, xi, xq⟩ := ⟨_, rfl⟩
      have hby : ∀ W', _ := fun W' => by_any ⟨ya, yi, yq⟩ ⟨xa, xi, xq⟩ W'
      unfold Lc.val at hby
      dsimp only at hby
      rw [← hcr] at hby hord
      have HBYC := Lib.hid hby
      clear hby hcr
      have j1 : (0 : Int) < (j : Int) + 1 := by omega
      have j2 : IntKind.i64.wrap ((j : Int) + 1 - 1) = (j : Int) := by rw [Int.add_sub_cancel]; exact IntWalk.i64_in _ (by omega)
      have j3 : (0 : Int) ≤ (j : Int) := by omega
      have j4 : (j : Int) < (m : Int) := by omega
      have j5 : (j : Int) + 1 - 1 = (j : Int) := by omega
      have j6 : IntKind.i64.wrap (j : Int) = (j : Int) := IntWalk.i64_in _ (by omega)
      have l0 := World.block_lt_of_cell? _ _ d0
      have l1 := World.block_lt_of_cell? _ _ d1
      have l2 := World.block_lt_of_cell? _ _ d2
      have HS : Hid (∀ w', Below V3.heap.size V3 w' → (fun w' => Below V3.heap.size V3 w' ∧ w'.cell? ⟨bx, 0, none⟩ = some (.int .i64 xa) ∧ w'.cell? ⟨bx, 1, none⟩ = some (.int .i64 xi) ∧ w'.cell? ⟨bx, 2, none⟩ = some (.int .i64 xq) ∧ w'.cell? (a1.add (j * 3)) = some (.int .i64 ya) ∧ w'.cell? ⟨(a1.add (j * 3)).block, (a1.add (j * 3)).off + 1, none⟩ = some (.int .i64 yi) ∧ w'.cell? ⟨(a1.add (j * 3)).block, (a1.add (j * 3)).off + 2, none⟩ = some (.int .i64 yq)) w') := fun w' hw => by
        have a := (HBX.out.below hw HBX.out.lt).three
        exact ⟨hw, a.1, a.2.1, a.2.2.1, (hw.cell l0).trans d0, (hw.cell l1).trans d1, (hw.cell l2).trans d2⟩
      have hV3s := HB3.out.size
      go_upto_region 8 with (fail)
      go_region_held (fun w' => Below V3.heap.size V3 w' ∧ w'.cell? ⟨bx, 0, none⟩ = some (.int .i64 xa) ∧ w'.cell? ⟨bx, 1, none⟩ = some (.int .i64 xi) ∧ w'.cell? ⟨bx, 2, none⟩ = some (.int .i64 xq) ∧ w'.cell? (a1.add (j * 3)) = some (.int .i64 ya) ∧ w'.cell? ⟨(a1.add (j * 3)).block, (a1.add (j * 3)).off + 1, none⟩ = some (.int .i64 yi) ∧ w'.cell? ⟨(a1.add (j * 3)).block, (a1.add (j * 3)).off + 2, none⟩ = some (.int .i64 yq))
        (first
          | with_reducible assumption
          | (refine HS.out _ ?_; first | with_reducible exact HW2.out | with_reducible exact (Below.refl _ _).drew))
        (first
          | (go_at_call 27; refine (HBYC.out _).mono ?_; rintro e w2 ⟨rfl, hb2⟩; obtain ⟨hB, -⟩ := ‹Below V3.heap.size V3 _ ∧ _›; have HW2 : Hid (Below V3.heap.size V3 w2) := hB.trans (hb2.mono hB.size); clear hb2 hB))
      all_goals
        by_cases hc0 : cr < 0
        · have ho : ordAt l (j + 1) = true := by rw [hord.out]; exact decide_eq_true hc0
          go_wp2
          exact ⟨⟨j + 1 + 1, by omega, by push_cast; rfl, HYES.out (HBO.out true ho), HB3.out.trans (HW2.out.mono hV3s)⟩, by simp only [intOf]; omega⟩
        · have ho : ordAt l (j + 1) = false := by rw [hord.out]; exact decide_eq_false hc0
          have e : r = false := HNK.out (j + 1) hlt (HBO.out false ho)
          subst e
          go_wp2
          go_ret
          exact ⟨rfl, HB3.out.trans (HW2.out.mono hV3s)⟩
    · have i5 : ¬ ((j : Int) < (m : Int)) := by omega
      have hjm : j = m := by omega
      have e : r = true := by rw [hr3.out, HLM.out, ← hjm, HP2.out]
      subst e
      go_wp2
      go_ret
      exact ⟨rfl, HB2.out⟩

set_option maxHeartbeats 8000000 in
theorem rgood_any (A B : Option Addr) (n c m d : Nat) (av : List Int) (l : List Lc) (ac nc : Int) (w : World) (hn : n ≤ maxLen) (hm : m ≤ maxLen) (hra : Rd w w.heap.size 1 A n (ints av)) (hrl : Rd w w.heap.size 3 B m (lcs l)) :
    Calls Try.prog 21 #[.slice A n c, .slice B m d, .int .i64 ac, .int .i64 nc] w fun e w' => e = .returned (.bool (goodB av l ac nc)) ∧ Below w.heap.size w w' := by
  have hl : av.length = n := by have := hra.1; rw [ints_len] at this; omega
  have hlm : l.length = m := by have := hrl.1; rw [lcs_len] at this; omega
  obtain ⟨r, hr⟩ : ∃ r, r = goodB av l ac nc := ⟨_, rfl⟩
  rw [← hr]
  rw [goodB_eq] at hr
  have HR := Lib.hid hr
  have HLA := Lib.hid hl
  have HLM := Lib.hid hlm
  have HRA := Lib.hid hra
  have HRL := Lib.hid hrl
  clear hr hl hlm hra hrl
  unfold maxLen at hn hm
  go_enter Try.func21, Try.ntmps21
  by_cases h1 : (n : Int) = nc
  case neg =>
    have e : r = false := by rw [HR.out, HLA.out, decide_eq_false (fun h => h1 h.1)]; rfl
    subst e
    go_wp2
    go_ret
    exact ⟨rfl, Below.refl _ _⟩
  by_cases h2 : 32 < m
  · have e : r = false := by rw [HR.out, HLM.out, decide_eq_false (fun h => by omega)]; rfl
    subst e
    have i1 : (32 : Int) < (m : Int) := by omega
    go_wp2
    go_ret
    exact ⟨rfl, Below.refl _ _⟩
  have i1 : ¬ ((32 : Int) < (m : Int)) := by omega
  have hr2 : Hid (r = (av.all fitsQ && upto (bothAt ac nc l) l.length)) := Lib.hid (by rw [HR.out, HLA.out, HLM.out, decide_eq_true ⟨h1, by omega⟩]; rfl)
  clear HR
  go_wp2_with fail
  refine (tidy_any A B n c m d av l w (by unfold maxLen; omega) (by unfold maxLen; omega) HRA.out HRL.out).mono ?_
  rintro e w1 ⟨rfl, hb1⟩
  have HB1 := Lib.hid hb1
  clear hb1
  by_cases ha : tidyB av l = true
  case neg =>
    have ha' : tidyB av l = false := by simpa using ha
    have e : r = false := by
      rw [hr2.out, upto_both]
      unfold tidyB at ha'
      cases h1 : av.all fitsQ <;> cases h2 : upto (tidyAt l) l.length <;> simp_all
    subst e
    rw [ha']
    go_wp2
    go_ret
    exact ⟨rfl, HB1.out⟩
  have hr3 : Hid (r = upto (inAt ac nc l) l.length) := Lib.hid (by
    rw [hr2.out, upto_both]
    unfold tidyB at ha
    rw [Bool.and_eq_true] at ha
    rw [ha.1, ha.2]
    rfl)
  rw [ha]
  clear ha hr2
  have hnk : ∀ j, j < m → inAt ac nc l j = false → r = false := fun j hj h => by rw [hr3.out]; exact upto_false (by have := HLM.out; omega) h
  have HNK := Lib.hid hnk
  clear hnk
  go_wp2
  go_loopw [28] (fun v wr => ∃ k : Nat, k ≤ m ∧ v = .int .i64 k ∧ upto (inAt ac nc l) k = true ∧ Below w.heap.size w wr) (fun v _ => m - (intOf v).toNat)
  case atStart => exact ⟨0, Nat.zero_le _, rfl, rfl, HB1.out⟩
  case round =>
    obtain ⟨j, hj, rfl, hpre, hbv⟩ := hrel
    rename World => V2
    have HP2 := Lib.hid hpre
    have HB2 := Lib.hid hbv
    clear hpre hbv
    by_cases hlt : j < m
    · have hjl : j < l.length := by have := HLM.out; omega
      obtain ⟨a0, hA, _, c0, c1, c2⟩ := (HRL.out.below HB2.out).loc hjl
      obtain ⟨⟨xa, xi, xq⟩, hx⟩ : ∃ x, x = l[j] := ⟨_, rfl⟩
      rw [← hx] at c0 c1 c2
      have HX : Hid (l.getD j default = ⟨xa, xi, xq⟩) := by rw [hx]; exact getD_lt hjl
      dsimp only at c0 c1 c2
      subst hA
      clear hx
      have i1 : (j : Int) < (m : Int) := by omega
      have i2 : (0 : Int) ≤ (j : Int) := by omega
      have i4 : IntKind.i64.wrap ((j : Int) + 1) = (j : Int) + 1 := IntWalk.i64_in _ (by omega)
      obtain ⟨V3, hV3⟩ : ∃ V3, V3 = V2.alloc (.cells #[.int .i64 xa, .int .i64 xi, .int .i64 xq] 39) := ⟨_, rfl⟩
      obtain ⟨bx, hbx⟩ : ∃ bx, bx = V2.heap.size := ⟨_, rfl⟩
      have HBX : Hid (Bk V3 bx 39 #[.int .i64 xa, .int .i64 xi, .int .i64 xq]) := by rw [hV3, hbx]; exact Bk.new _ _ _
      have HB3 : Hid (Below w.heap.size w V3) := by rw [hV3]; exact HB2.out.alloc HB2.out.size _
      go_upto_region 6 with (fail)
      rw [← hV3, ← hbx]
      clear hV3 hbx c0 c1 c2
      obtain ⟨x0, x1, x2, z0, z1, z2, hxg⟩ := HBX.out.three
      have hyes : inAt ac nc l j = true → upto (inAt ac nc l) (j + 1) = true := fun h => by rw [upto_succ, HP2.out, h]; rfl
      have HYES := Lib.hid hyes
      clear hyes
      by_cases k0 : xa < 2
      · have e : r = false := HNK.out j hlt (by unfold inAt; rw [HX.out]; exact decide_eq_false (by dsimp only; omega))
        subst e
        go_wp2
        go_ret
        exact ⟨rfl, HB3.out⟩
      by_cases k1 : ac ≤ xa
      · have e : r = false := HNK.out j hlt (by unfold inAt; rw [HX.out]; exact decide_eq_false (by dsimp only; omega))
        subst e
        go_wp2
        go_ret
        exact ⟨rfl, HB3.out⟩
      by_cases k2 : xi < 0
      · have e : r = false := HNK.out j hlt (by unfold inAt; rw [HX.out]; exact decide_eq_false (by dsimp only; omega))
        subst e
        go_wp2
        go_ret
        exact ⟨rfl, HB3.out⟩
      by_cases k3 : nc ≤ xi
      · have e : r = false := HNK.out j hlt (by unfold inAt; rw [HX.out]; exact decide_eq_false (by dsimp only; omega))
        subst e
        go_wp2
        go_ret
        exact ⟨rfl, HB3.out⟩
      by_cases k4 : xq = 0
      · have e : r = false := HNK.out j hlt (by unfold inAt; rw [HX.out]; exact decide_eq_false (by dsimp only; omega))
        subst e
        go_wp2
        go_ret
        exact ⟨rfl, HB3.out⟩
      have hin : inAt ac nc l j = true := by unfold inAt; rw [HX.out]; exact decide_eq_true (by dsimp only; omega)
      go_wp2
      exact ⟨⟨j + 1, by omega, by push_cast; rfl, HYES.out hin, HB3.out⟩, by simp only [intOf]; omega⟩
    · have i5 : ¬ ((j : Int) < (m : Int)) := by omega
      have hjm : j = m := by omega
      have e : r = true := by rw [hr3.out, HLM.out, ← hjm, HP2.out]
      subst e
      go_wp2
      go_ret
      exact ⟨rfl, HB2.out⟩

end Go.Proofs.Ytboehkcpgmpjjaa
