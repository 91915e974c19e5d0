/- Walk: the document's Drop. -/
import Derived.Test.YtiapbgbbeakoiaaOQ
namespace Go.Proofs.Ytiapbgbbeakoiaa.O
open Go.RowKit

theorem rd_cut {w : World} {B n : Nat} {a : Addr} {l : List Lc} (h : Rd w B 5 (some a) n (lcs l)) {j : Nat} (hj : j ≤ n) : Rd w B 5 (some (a.add (j * 5))) (n - j) (lcs (l.drop j)) := by
  have hl : l.length = n := by have := h.1; rw [lcs_len] at this; omega
  refine ⟨by rw [lcs_len, List.length_drop, hl], fun hn => ?_⟩
  obtain ⟨a', e, hb, hc⟩ := h.2 (by omega)
  injection e with e
  subst e
  refine ⟨_, rfl, by rw [add_block]; exact hb, fun i u hu => ?_⟩
  rw [add_add']
  refine hc _ _ ?_
  rw [← lcs_drop, List.getElem?_drop] at hu
  exact hu
theorem rd_fore {w : World} {B n : Nat} {A : Option Addr} {l : List Lc} (h : Rd w B 5 A n (lcs l)) {j : Nat} (hj : j ≤ n) : Rd w B 5 A j (lcs (l.take j)) := by
  have hl : l.length = n := by have := h.1; rw [lcs_len] at this; omega
  refine ⟨by rw [lcs_len, List.length_take]; omega, fun hn => ?_⟩
  obtain ⟨a', e, hb, hc⟩ := h.2 (by omega)
  refine ⟨a', e, hb, fun i u hu => hc _ _ ?_⟩
  rw [← lcs_take, List.getElem?_take] at hu
  split at hu
  · exact hu
  · cases hu

set_option maxHeartbeats 8000000 in
set_option maxRecDepth 100000 in
theorem rdrop_any (A : Option Addr) (n c : Nat) (l : List Lc) (a i : Int) (w : World) (hso : Sorted l) (hn : n ≤ 1000000) (hnc : n ≤ c) (hr : Rd w w.heap.size 5 A n (lcs l)) :
    Calls Try.prog 31 #[.slice A n c, .int .i64 a, .int .i64 i] w (LOut w (dropL l a i)) := by
  have hl : l.length = n := by have := hr.1; rw [lcs_len] at this; omega
  obtain ⟨r, hr'⟩ : ∃ r, r = dropL l a i := ⟨_, rfl⟩
  rw [← hr']
  have HF := rfind_any A n c l a i w (by unfold maxLen; omega) hr
  rw [findL_sorted hso] at HF
  have hth0 := fun h => there_lt (l := l) (x := ⟨a, i, 0, 0, 0⟩) h
  have hrr := hr'
  unfold dropL at hrr
  obtain ⟨p, hp⟩ : ∃ p, p = place l ⟨a, i, 0, 0, 0⟩ := ⟨_, rfl⟩
  obtain ⟨th, hth⟩ : ∃ th, th = thereB l ⟨a, i, 0, 0, 0⟩ := ⟨_, rfl⟩
  rw [← hp, ← hth] at HF hrr
  rw [← hp, ← hth] at hth0
  have hthp : th = true → p < n := fun ht => by have := hth0 ht; omega
  have HRR := Lib.hid hrr
  have HRD := Lib.hid hr
  have HL := Lib.hid hl
  have HFF := Lib.hid HF
  clear hr' hso hr hl hp hth hth0 hrr HF
  go_enter Try.func31, Try.ntmps31
  go_wp2_with fail
  refine HFF.out.mono ?_
  rintro e w1 ⟨rfl, hb1⟩
  cases th with
  | false =>
    have e : r = ([], 34) := by rw [HRR.out, if_neg (by simp)]
    subst e
    rw [if_neg (by simp)]
    go_wp2
    go_ret2
    exact l_bad 34 hb1
  | true =>
  rw [if_pos rfl]
  have hpn := hthp rfl
  obtain ⟨a0, rfl⟩ : ∃ a0, A = some a0 := by
    obtain ⟨a0, h0, _⟩ := HRD.out.2 (by omega)
    exact ⟨a0, h0⟩
  have e : r = (l.take p ++ l.drop (p + 1), 0) := by rw [HRR.out, if_pos rfl]
  subst e
  have i1 : (0 : Int) ≤ (p : Int) := by omega
  have i1' : ¬ ((p : Int) < 0) := by omega
  have i2 : (p : Int) ≤ (n : Int) := by omega
  have i3 : (p : Int) ≤ (c : Int) := by omega
  have i4 : (p : Int) + 1 ≤ (n : Int) := by omega
  have i5 : (p : Int) + 1 ≤ (c : Int) := by omega
  have i6 : (0 : Int) ≤ (p : Int) + 1 := by omega
  have i7 : (n : Int) ≤ (c : Int) := by omega
  have iw3 : IntKind.i64.wrap ((p : Int) + 1) = (p : Int) + 1 := IntWalk.i64_in _ (by omega)
  have HB1 := Lib.hid hb1
  clear hb1
  obtain ⟨i0, hinf, hz0, hz1, hz2⟩ := info_parts info38
  have hown0 : ((w1.alloc (.cells #[] 38)).drew).ownsRow w1.heap.size 38 5 (.slice (some ⟨w1.heap.size, 0, none⟩) 0 0) 0 [] := ⟨by simp, .inr ⟨w1.heap.size, 0, #[], rfl, Nat.le_refl _, Bk.new _ _ _, Nat.le_refl _, Nat.zero_le _, by simp, by simp⟩⟩
  have HRW : Hid (∀ V, Below w1.heap.size w1 V → Rd V w1.heap.size 5 (some a0) n (lcs l)) := fun V h => ((HRD.out.below HB1.out).mono HB1.out.size).below h
  have HRC : Hid (∀ V, Below w1.heap.size w1 V → Rd V w1.heap.size 5 (if c = p + 1 then some a0 else some (a0.add ((p + 1) * 5))) (n - (p + 1)) (lcs (l.drop (p + 1)))) := fun V h => by
    by_cases hc : c = p + 1
    · rw [if_pos hc]
      have e : n - (p + 1) = 0 := by omega
      have e2 : l.drop (p + 1) = [] := List.drop_eq_nil_of_le (by rw [HL.out]; omega)
      rw [e, e2]
      exact Rd.nil _ _ _ _
    · rw [if_neg hc]
      exact rd_cut (HRW.out V h) (by omega)
  have HO0 := Lib.hid hown0
  have HBA : Hid (Below w1.heap.size w1 (w1.alloc (.cells #[] 38)).drew) := ((Below.refl w1.heap.size w1).alloc (Nat.le_refl _) _).drew
  have one1 := lcs_one (l.take p)
  have one2 := lcs_one (l.drop (p + 1))
  have hlt : (l.take p).length = p := by rw [List.length_take, HL.out]; omega
  have hld : (l.drop (p + 1)).length = n - (p + 1) := by rw [List.length_drop, HL.out]
  have HLT := Lib.hid hlt
  have HLD := Lib.hid hld
  clear hown0 hlt hld
  go_upto_region 4 with (fail)
  go_region_held3 (fun V => Below w1.heap.size w1 V)
    (first
      | with_reducible assumption
      | with_reducible exact HW2.out
      | with_reducible exact HBA.out
      | with_reducible exact (Below.refl _ _).drew)
    (first
      | (refine step_append_rd _ rfl (.tmp 15) (.tmp 18) _ rfl w1.heap.size 38 i0 _ 5 40 Try.underlying32 hinf hz0 hz1 hz2 rfl (by omega) _ 0 [] rfl HO0.out w1.heap.size _ p _ _ rfl (rd_fore (HRW.out _ HBA.out) (by omega)) one1 (by unfold maxLen; omega) (by omega) (by simp) ?_; intro A1 c1 w3 h1 h2 hown1 hg1 hat1; have HW2 : Hid (Below w1.heap.size w1 w3) := (HBA.out.grown hg1 (by simp) (fun b hb => Nat.le_of_eq (Option.some.inj hb))); have HO1 := Lib.hid hown1; clear hown1 hg1 hat1 h1 h2; dsimp only)
      | (refine step_append_rd _ rfl (.tmp 19) (.tmp 23) _ rfl w1.heap.size 38 i0 _ 5 40 Try.underlying32 hinf hz0 hz1 hz2 rfl (by omega) _ (0 + p) ([] ++ lcs (l.take p)) rfl HO1.out w1.heap.size _ (n - (p + 1)) _ _ rfl (HRC.out _ HW2.out) one2 (by unfold maxLen; omega) (by omega) HW2.out.size ?_; intro A5 c5 w5 h1 h2 hown2 hg2 hat2; have HW5 : Hid (Below w1.heap.size w1 w5) := (HW2.out.grown hg2 HW2.out.size (fun b hb => (HO1.out.lt b hb).1)); clear HW2; have HW2 := HW5; have HO5 := Lib.hid hown2; have HH1 := Lib.hid h1; have HH2 := Lib.hid h2; clear hown2 hg2 hat2 h1 h2 HW5; dsimp only))
  all_goals go_wp2
  all_goals
    go_ret2
    have hlen : (l.take p ++ l.drop (p + 1)).length = 0 + p + (n - (p + 1)) := by rw [List.length_append, HLT.out, HLD.out]; omega
    have ho := HO5.out
    rw [List.nil_append, ← lcs_append] at ho
    first
      | exact l_ok hlen HH1.out HH2.out (own_mono ho HB1.out.size) (HB1.out.trans (HW2.out.mono HB1.out.size))
      | (rw [Nat.zero_add] at hlen ho; exact l_ok hlen (by have := HH1.out; omega) HH2.out (own_mono ho HB1.out.size) (HB1.out.trans (HW2.out.mono HB1.out.size)))

end Go.Proofs.Ytiapbgbbeakoiaa.O
