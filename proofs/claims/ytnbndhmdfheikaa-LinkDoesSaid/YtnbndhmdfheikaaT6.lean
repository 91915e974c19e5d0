/- Walk: Take of the program, whatever end and frame. -/
import Derived.Test.YtnbndhmdfheikaaT1
import Derived.Test.YtnbndhmdfheikaaT2
import Derived.Test.YtnbndhmdfheikaaT3
import Derived.Test.YtnbndhmdfheikaaT4
import Derived.Test.YtnbndhmdfheikaaT5
namespace Go.Proofs.Ytnbndhmdfheikaa
open Go.RowKit

theorem good_parts {s : Sd} (h : goodB s = true) : s.sent.length ≤ 256 ∧ 0 ≤ s.known ∧ s.known ≤ s.sent.length ∧ 0 ≤ s.taken ∧ s.taken ≤ 1099511627776 ∧ s.sent.all fitsB = true := by
  simp only [goodB, Bool.and_eq_true, decide_eq_true_eq] at h
  exact ⟨h.1.1, h.1.2.1, h.1.2.2.1, h.1.2.2.2.1, h.1.2.2.2.2, h.2⟩
theorem valid_parts {f : Fr} (h : validB f = true) : 0 ≤ f.num ∧ f.num ≤ 1099511627776 ∧ 0 ≤ f.taken ∧ f.taken ≤ 1099511627776 ∧
    ((f.kind = 1 ∧ 1 ≤ f.num ∧ fitsB f.body = true) ∨ (f.kind = 2 ∧ 1 ≤ f.num ∧ f.body.size = 0) ∨ (f.kind = 3 ∧ f.body.size = 0)) := by
  simp only [validB, Bool.and_eq_true, decide_eq_true_eq] at h
  obtain ⟨⟨h1, h2, h3, h4⟩, h5⟩ := h
  refine ⟨h1, h2, h3, h4, ?_⟩
  by_cases hk : f.kind = 1
  · rw [if_pos hk] at h5
    simp only [Bool.and_eq_true, decide_eq_true_eq] at h5
    exact .inl ⟨hk, h5.1, h5.2⟩
  · rw [if_neg hk] at h5
    simp only [Bool.and_eq_true, Bool.or_eq_true, decide_eq_true_eq] at h5
    rcases h5.2 with h6 | h6
    · exact .inr (.inl ⟨h6.1, h6.2, h5.1⟩)
    · exact .inr (.inr ⟨h6, h5.1⟩)

theorem take_any (A : Option Addr) (n c : Nat) (s : Sd) (f : Fr) (w : World) (hnm : n ≤ maxLen) (hr : Rd w w.heap.size 1 A n (s.sent.map Value.string)) :
    Calls Try.prog 31 #[sideVal (.slice A n c) s, f.val] w (TakeOut w (takeS s f)) := by
  have hln : s.sent.length = n := by simpa using hr.1
  obtain ⟨ss, tk, kn⟩ := s
  obtain ⟨k, num, t, b⟩ := f
  dsimp only at hln hr
  by_cases hg : goodB ⟨ss, tk, kn⟩ = true
  case neg =>
    have hg' : goodB ⟨ss, tk, kn⟩ = false := by simpa using hg
    rw [show takeS ⟨ss, tk, kn⟩ ⟨k, num, t, b⟩ = ⟨⟨[], 0, 0⟩, noBytes, [], 1⟩ by simp [takeS, hg']]
    exact take_bad A n c ss tk kn k num t b w hnm hr hg'
  by_cases hv : validB ⟨k, num, t, b⟩ = true
  case neg =>
    have hv' : validB ⟨k, num, t, b⟩ = false := by simpa using hv
    rw [show takeS ⟨ss, tk, kn⟩ ⟨k, num, t, b⟩ = ⟨⟨[], 0, 0⟩, noBytes, [], 11⟩ by simp [takeS, hg, hv']]
    exact take_form A n c ss tk kn t b w k num hnm hr hg hv'
  obtain ⟨g1, g2, g3, g4, g5, _⟩ := good_parts hg
  obtain ⟨v1, v2, v3, v4, v5⟩ := valid_parts hv
  dsimp only at g1 g2 g3 g4 g5 v1 v2 v3 v4 v5
  rw [hln] at g1 g3
  have step : takeS ⟨ss, tk, kn⟩ ⟨k, num, t, b⟩ = if k = 1 ∧ num = tk + 1 then ⟨⟨ss, tk + 1, (Sd.knows ⟨ss, tk, kn⟩ t).known⟩, b, [], 0⟩
      else if k = 2 then ⟨Sd.knows ⟨ss, tk, kn⟩ t, noBytes, (Sd.mk ss tk kn).again num, 0⟩
      else if tk < num then ⟨Sd.knows ⟨ss, tk, kn⟩ t, noBytes, [⟨2, tk + 1, tk, noBytes⟩], 0⟩ else ⟨Sd.knows ⟨ss, tk, kn⟩ t, noBytes, [], 0⟩ := by
    simp [takeS, hg, hv]
  rw [step]
  clear step
  have ka : kn < t → t ≤ n → Sd.knows ⟨ss, tk, kn⟩ t = ⟨ss, tk, t⟩ := fun h1 h2 => by
    unfold Sd.knows; dsimp only; rw [hln, if_pos ⟨h1, h2⟩]
  have kb : ¬ (kn < t ∧ t ≤ n) → Sd.knows ⟨ss, tk, kn⟩ t = ⟨ss, tk, kn⟩ := fun h => by
    unfold Sd.knows; dsimp only; rw [hln, if_neg h]
  by_cases hd : k = 1 ∧ num = tk + 1
  · rw [if_pos hd]
    obtain ⟨rfl, rfl⟩ := hd
    by_cases k1 : kn < t
    · by_cases k2 : t ≤ n
      · rw [ka k1 k2]; exact take_data_a A n c ss tk kn t b w hnm hln hr hg hv g1 g4 (by omega) k1 k2
      · rw [kb (by omega)]; exact take_data_c A n c ss tk kn t b w hnm hln hr hg hv g1 g4 (by omega) k1 (by omega)
    · rw [kb (by omega)]; exact take_data_b A n c ss tk kn t b w hnm hln hr hg hv g1 g4 (by omega) (by omega)
  rw [if_neg hd]
  by_cases k2' : k = 2
  · rw [if_pos k2']
    subst k2'
    have hn1 : 1 ≤ num := by omega
    by_cases k1 : kn < t
    · by_cases k2 : t ≤ n
      · rw [ka k1 k2]; exact take_ask_a A n c ss tk kn t b w num hnm hln hr hg hv g1 hn1 v2 k1 k2
      · rw [kb (by omega)]; exact take_ask_c A n c ss tk kn t b w num hnm hln hr hg hv g1 hn1 v2 k1 (by omega)
    · rw [kb (by omega)]; exact take_ask_b A n c ss tk kn t b w num hnm hln hr hg hv g1 hn1 v2 (by omega)
  rw [if_neg k2']
  have hk : k = 1 ∨ k = 3 := by omega
  by_cases hx : tk < num
  · rw [if_pos hx]
    rcases hk with rfl | rfl
    · have d1 : (num == tk + 1) = false := beq_ne (by omega)
      by_cases k1 : kn < t
      · by_cases k2 : t ≤ n
        · rw [ka k1 k2]; exact take_gap_ad A n c ss tk kn t b w num hnm hln hr hg hv g1 g4 g5 k1 k2 d1 hx
        · rw [kb (by omega)]; exact take_gap_cd A n c ss tk kn t b w num hnm hln hr hg hv g1 g4 g5 k1 (by omega) d1 hx
      · rw [kb (by omega)]; exact take_gap_bd A n c ss tk kn t b w num hnm hln hr hg hv g1 g4 g5 (by omega) d1 hx
    · by_cases k1 : kn < t
      · by_cases k2 : t ≤ n
        · rw [ka k1 k2]; exact take_gap_ae A n c ss tk kn t b w num hnm hln hr hg hv g1 g4 g5 k1 k2 hx
        · rw [kb (by omega)]; exact take_gap_ce A n c ss tk kn t b w num hnm hln hr hg hv g1 g4 g5 k1 (by omega) hx
      · rw [kb (by omega)]; exact take_gap_be A n c ss tk kn t b w num hnm hln hr hg hv g1 g4 g5 (by omega) hx
  · rw [if_neg hx]
    rcases hk with rfl | rfl
    · have d1 : (num == tk + 1) = false := beq_ne (by omega)
      by_cases k1 : kn < t
      · by_cases k2 : t ≤ n
        · rw [ka k1 k2]; exact take_none_ad A n c ss tk kn t b w num hnm hln hr hg hv g1 g4 g5 k1 k2 d1 (by omega)
        · rw [kb (by omega)]; exact take_none_cd A n c ss tk kn t b w num hnm hln hr hg hv g1 g4 g5 k1 (by omega) d1 (by omega)
      · rw [kb (by omega)]; exact take_none_bd A n c ss tk kn t b w num hnm hln hr hg hv g1 g4 g5 (by omega) d1 (by omega)
    · by_cases k1 : kn < t
      · by_cases k2 : t ≤ n
        · rw [ka k1 k2]; exact take_none_ae A n c ss tk kn t b w num hnm hln hr hg hv g1 k1 k2 (by omega)
        · rw [kb (by omega)]; exact take_none_ce A n c ss tk kn t b w num hnm hln hr hg hv g1 k1 (by omega) (by omega)
      · rw [kb (by omega)]; exact take_none_be A n c ss tk kn t b w num hnm hln hr hg hv g1 (by omega) (by omega)

end Go.Proofs.Ytnbndhmdfheikaa
