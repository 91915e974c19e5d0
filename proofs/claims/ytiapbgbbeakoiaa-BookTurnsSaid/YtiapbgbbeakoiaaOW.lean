/- Walk: Drop. By gen_c.py. -/
import Derived.Test.YtiapbgbbeakoiaaOU
namespace Go.Proofs.Ytiapbgbbeakoiaa.O
open Go.RowKit

set_option maxHeartbeats 8000000 in
set_option maxRecDepth 100000 in
theorem drop_any (A : Option Addr) (n c : Nat) (l : List Lc) (a i : Int) (w : World) (hso : Sorted l) (hn : n ≤ 1000000) (hr : Rd w w.heap.size 5 A n (lcs l)) :
    Calls Try.prog 19 #[.slice A n c, .int .i64 a, .int .i64 i] w (LOut w (dropL l a i)) := by
  have hl : l.length = n := by have := hr.1; rw [lcs_len] at this; omega
  obtain ⟨r, hr'⟩ : ∃ r, r = dropL l a i := ⟨_, rfl⟩
  rw [← hr']
  have HF := find_any A n c l a i w (by unfold maxLen; omega) hr
  rw [findL_sorted hso] at HF
  have hth0 := fun h => there_lt (l := l) (x := ⟨a, i, 0, 0, 0⟩) h
  have hrr := hr'
  unfold dropL at hrr
  obtain ⟨p, hp⟩ : ∃ p, p = place l ⟨a, i, 0, 0, 0⟩ := ⟨_, rfl⟩
  obtain ⟨th, hth⟩ : ∃ th, th = thereB l ⟨a, i, 0, 0, 0⟩ := ⟨_, rfl⟩
  rw [← hp, ← hth] at HF hrr
  rw [← hp, ← hth] at hth0
  have hthp : th = true → p < n := fun ht => by have := hth0 ht; omega
  have HRR := Lib.hid hrr
  have HRD := Lib.hid hr
  have HL := Lib.hid hl
  have HFF := Lib.hid HF
  clear hr' hso hr hl hp hth hth0 hrr HF
  go_enter Try.func19, Try.ntmps19
  go_wp2_with fail
  refine HFF.out.mono ?_
  rintro e w1 ⟨rfl, hb1⟩
  cases th with
  | false =>
    have e : r = ([], 34) := by rw [HRR.out, if_neg (by simp)]
    subst e
    rw [if_neg (by simp)]
    go_wp2
    go_ret2
    exact l_bad 34 hb1
  | true =>
  rw [if_pos rfl]
  have hpn := hthp rfl
  obtain ⟨m', rfl⟩ : ∃ m', n = m' + 1 := ⟨n - 1, by omega⟩
  have e : r = (l.take p ++ l.drop (p + 1), 0) := by rw [HRR.out, if_pos rfl]
  subst e
  have i1 : (0 : Int) ≤ (p : Int) := by omega
  have i1' : ¬ ((p : Int) < 0) := by omega
  have i2 : (p : Int) < (m' : Int) + 1 := by omega
  have HB1 := Lib.hid hb1
  clear hb1
  go_wp2_with fail
  refine (cloneL_any A (m' + 1) c (lcs l) w1 (lcs_one l) (by omega) ((HRD.out.below HB1.out).mono HB1.out.size)).mono ?_
  rintro e w3 ⟨A1, c1, rfl, hc1, hm1, ho1, hb3⟩
  have HO3 : Hid (w3.ownsRow w.heap.size 38 5 (.slice A1 (m' + 1) c1) (m' + 1) (lcs l)) := own_mono ho1 HB1.out.size
  have HB3 : Hid (Below w.heap.size w w3) := HB1.out.trans (hb3.mono HB1.out.size)
  obtain ⟨g0, rfl⟩ : ∃ g0, A1 = some g0 := by
    rcases A1 with _ | g0
    · rcases HO3.out.2 with ⟨_, h0⟩ | ⟨_, _, _, hv, _⟩
      · omega
      · cases hv
    · exact ⟨g0, rfl⟩
  obtain ⟨g, cur, rfl, hgb, hB, hmc, hcm, hsz, hcur⟩ := own_open HO3.out
  have iw3 : IntKind.i64.wrap ((p : Int) + 1) = (p : Int) + 1 := IntWalk.i64_in _ (by omega)
  have HDEL := Lib.hid (delete_any w.heap.size g m' c1 p l cur w3 hgb hB hmc hcm hsz HL.out hcur hpn)
  have HLL : Hid ((l.take p ++ l.drop (p + 1)).length = m') := by rw [Hid, List.length_append, List.length_take, List.length_drop, HL.out]; omega
  have hmc' : m' ≤ c1 := by omega
  clear hB hsz hcur ho1 hb3
  go_wp2_with fail
  refine HDEL.out.mono ?_
  rintro e w6 ⟨rfl, ho6, hb6⟩
  go_wp2
  go_ret2
  exact l_ok HLL.out hmc' hcm ho6 (HB3.out.trans hb6)


end Go.Proofs.Ytiapbgbbeakoiaa.O
