/- Walk: Take of the document, whatever end and frame. -/
import Derived.Test.YtnbndhmdfheikaaR3
import Derived.Test.YtnbndhmdfheikaaR4
import Derived.Test.YtnbndhmdfheikaaR5
namespace Go.Proofs.Ytnbndhmdfheikaa
open Go.RowKit

theorem rtake_any (A : Option Addr) (n c : Nat) (s : Sd) (f : Fr) (w : World) (hnm : n ≤ maxLen) (hr : Rd w w.heap.size 1 A n (s.sent.map Value.string)) :
    Calls Try.prog 47 #[sideVal (.slice A n c) s, f.val] w (TakeOut w (takeS s f)) := by
  have hln : s.sent.length = n := by simpa using hr.1
  obtain ⟨ss, tk, kn⟩ := s
  obtain ⟨k, num, t, b⟩ := f
  dsimp only at hln hr
  by_cases hg : goodB ⟨ss, tk, kn⟩ = true
  case neg =>
    have hg' : goodB ⟨ss, tk, kn⟩ = false := by simpa using hg
    rw [show takeS ⟨ss, tk, kn⟩ ⟨k, num, t, b⟩ = ⟨⟨[], 0, 0⟩, noBytes, [], 1⟩ by simp [takeS, hg']]
    exact rtake_bad A n c ss tk kn t b w k num hnm hr hg'
  by_cases hv : validB ⟨k, num, t, b⟩ = true
  case neg =>
    have hv' : validB ⟨k, num, t, b⟩ = false := by simpa using hv
    rw [show takeS ⟨ss, tk, kn⟩ ⟨k, num, t, b⟩ = ⟨⟨[], 0, 0⟩, noBytes, [], 11⟩ by simp [takeS, hg, hv']]
    exact rtake_form A n c ss tk kn t b w k num hnm hr hg hv'
  obtain ⟨g1, g2, g3, g4, g5, _⟩ := good_parts hg
  obtain ⟨v1, v2, v3, v4, v5⟩ := valid_parts hv
  dsimp only at g1 g2 g3 g4 g5 v1 v2 v3 v4 v5
  rw [hln] at g1 g3
  have step : takeS ⟨ss, tk, kn⟩ ⟨k, num, t, b⟩ = if k = 1 ∧ num = tk + 1 then ⟨⟨ss, tk + 1, (Sd.knows ⟨ss, tk, kn⟩ t).known⟩, b, [], 0⟩
      else if k = 2 then ⟨Sd.knows ⟨ss, tk, kn⟩ t, noBytes, (Sd.mk ss tk kn).again num, 0⟩
      else if tk < num then ⟨Sd.knows ⟨ss, tk, kn⟩ t, noBytes, [⟨2, tk + 1, tk, noBytes⟩], 0⟩ else ⟨Sd.knows ⟨ss, tk, kn⟩ t, noBytes, [], 0⟩ := by
    simp [takeS, hg, hv]
  rw [step]
  clear step
  have ka : kn < t → t ≤ n → Sd.knows ⟨ss, tk, kn⟩ t = ⟨ss, tk, t⟩ := fun h1 h2 => by
    unfold Sd.knows; dsimp only; rw [hln, if_pos ⟨h1, h2⟩]
  have kb : ¬ (kn < t ∧ t ≤ n) → Sd.knows ⟨ss, tk, kn⟩ t = ⟨ss, tk, kn⟩ := fun h => by
    unfold Sd.knows; dsimp only; rw [hln, if_neg h]
  by_cases hd : k = 1 ∧ num = tk + 1
  · rw [if_pos hd]
    obtain ⟨rfl, rfl⟩ := hd
    by_cases k1 : kn < t
    · by_cases k2 : t ≤ n
      · rw [ka k1 k2]; exact rtake_data_a A n c ss tk kn t b w hnm hln hr hg hv g1 g4 (by omega) k1 k2
      · rw [kb (by omega)]; exact rtake_data_c A n c ss tk kn t b w hnm hln hr hg hv g1 g4 (by omega) k1 (by omega)
    · rw [kb (by omega)]; exact rtake_data_b A n c ss tk kn t b w hnm hln hr hg hv g1 g4 (by omega) (by omega)
  rw [if_neg hd]
  by_cases k2' : k = 2
  · rw [if_pos k2']
    subst k2'
    have hn1 : 1 ≤ num := by omega
    by_cases k1 : kn < t
    · by_cases k2 : t ≤ n
      · rw [ka k1 k2]; exact rtake_ask_a A n c ss tk kn t b w num hnm hln hr hg hv g1 hn1 v2 k1 k2
      · rw [kb (by omega)]; exact rtake_ask_c A n c ss tk kn t b w num hnm hln hr hg hv g1 hn1 v2 k1 (by omega)
    · rw [kb (by omega)]; exact rtake_ask_b A n c ss tk kn t b w num hnm hln hr hg hv g1 hn1 v2 (by omega)
  rw [if_neg k2']
  have hk : k = 1 ∨ k = 3 := by omega
  by_cases hx : tk < num
  · rw [if_pos hx]
    rcases hk with rfl | rfl
    · have d1 : (num == tk + 1) = false := beq_ne (by omega)
      by_cases k1 : kn < t
      · by_cases k2 : t ≤ n
        · rw [ka k1 k2]; exact rtake_gap_ad A n c ss tk kn t b w num hnm hln hr hg hv g1 g4 g5 k1 k2 d1 hx
        · rw [kb (by omega)]; exact rtake_gap_cd A n c ss tk kn t b w num hnm hln hr hg hv g1 g4 g5 k1 (by omega) d1 hx
      · rw [kb (by omega)]; exact rtake_gap_bd A n c ss tk kn t b w num hnm hln hr hg hv g1 g4 g5 (by omega) d1 hx
    · by_cases k1 : kn < t
      · by_cases k2 : t ≤ n
        · rw [ka k1 k2]; exact rtake_gap_ae A n c ss tk kn t b w num hnm hln hr hg hv g1 g4 g5 k1 k2 hx
        · rw [kb (by omega)]; exact rtake_gap_ce A n c ss tk kn t b w num hnm hln hr hg hv g1 g4 g5 k1 (by omega) hx
      · rw [kb (by omega)]; exact rtake_gap_be A n c ss tk kn t b w num hnm hln hr hg hv g1 g4 g5 (by omega) hx
  · rw [if_neg hx]
    rcases hk with rfl | rfl
    · have d1 : (num == tk + 1) = false := beq_ne (by omega)
      by_cases k1 : kn < t
      · by_cases k2 : t ≤ n
        · rw [ka k1 k2]; exact rtake_none_ad A n c ss tk kn t b w num hnm hln hr hg hv g1 g4 g5 k1 k2 d1 (by omega)
        · rw [kb (by omega)]; exact rtake_none_cd A n c ss tk kn t b w num hnm hln hr hg hv g1 g4 g5 k1 (by omega) d1 (by omega)
      · rw [kb (by omega)]; exact rtake_none_bd A n c ss tk kn t b w num hnm hln hr hg hv g1 g4 g5 (by omega) d1 (by omega)
    · by_cases k1 : kn < t
      · by_cases k2 : t ≤ n
        · rw [ka k1 k2]; exact rtake_none_ae A n c ss tk kn t b w num hnm hln hr hg hv g1 k1 k2 (by omega)
        · rw [kb (by omega)]; exact rtake_none_ce A n c ss tk kn t b w num hnm hln hr hg hv g1 k1 (by omega) (by omega)
      · rw [kb (by omega)]; exact rtake_none_be A n c ss tk kn t b w num hnm hln hr hg hv g1 (by omega) (by omega)

end Go.Proofs.Ytnbndhmdfheikaa
