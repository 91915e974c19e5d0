/- Plain laws for SessMends. -/
import Derived.Test.YtnbndhmdfheikaaP1
import Derived.Test.YtnbndhmdfheikaaK1
import Derived.Test.YtnbndhmdfheikaaLM
namespace Go.Proofs.Ytnbndhmdfheikaa
open Go.RowKit

/-- What Send answers at an end that took nothing. -/
theorem send_cases (ss : List ByteArray) (m : ByteArray) (hg : goodB ⟨ss, 0, 0⟩ = true) :
    (sendS ⟨ss, 0, 0⟩ m = ⟨⟨ss ++ [m], 0, 0⟩, ⟨1, ss.length + 1, 0, m⟩, 0⟩ ∧ goodB ⟨ss ++ [m], 0, 0⟩ = true) ∨ ∃ e : Int, e ≠ 0 ∧ sendS ⟨ss, 0, 0⟩ m = ⟨⟨[], 0, 0⟩, zeroFr, e⟩ := by
  by_cases h0 : (sendS ⟨ss, 0, 0⟩ m).e = 0
  · left
    have hst := (send_stays hg h0).1
    unfold sendS at h0 hst ⊢
    rw [if_neg (by simp [hg])] at h0 hst ⊢
    by_cases hf : fitsB m = false
    · rw [if_pos hf] at h0; cases h0
    · rw [if_neg hf] at h0 hst ⊢
      by_cases hl : (⟨ss, 0, 0⟩ : Sd).sent.length = 256
      · rw [if_pos hl] at h0; cases h0
      · rw [if_neg hl] at hst ⊢
        exact ⟨rfl, hst⟩
  · right
    unfold sendS at h0 ⊢
    rw [if_neg (by simp [hg])] at h0 ⊢
    by_cases hf : fitsB m = false
    · rw [if_pos hf]; exact ⟨11, by decide, rfl⟩
    · rw [if_neg hf] at h0 ⊢
      by_cases hl : (⟨ss, 0, 0⟩ : Sd).sent.length = 256
      · rw [if_pos hl]; exact ⟨40, by decide, rfl⟩
      · rw [if_neg hl] at h0; exact absurd rfl h0

theorem good_nil {t : Int} (h0 : 0 ≤ t) (h1 : t ≤ 1099511627776) : goodB ⟨[], t, 0⟩ = true := good_mk (by simp) (by simp) (by simp) h0 h1 rfl

theorem knows_nil (t u : Int) : (⟨[], t, 0⟩ : Sd).knows u = ⟨[], t, 0⟩ := by
  unfold Sd.knows
  rw [if_neg (by simp)]

/-- The beat shows the gap. -/
theorem take_beat (n t : Int) (hn : 0 ≤ n) (hn' : n ≤ 256) (h0 : 0 ≤ t) (h1 : t ≤ n) :
    takeS ⟨[], t, 0⟩ ⟨3, n, 0, noBytes⟩ = ⟨⟨[], t, 0⟩, noBytes, if t < n then [⟨2, t + 1, t, noBytes⟩] else [], 0⟩ := by
  have hg : goodB ⟨[], t, 0⟩ = true := good_nil h0 (by omega)
  have hv : validB ⟨3, n, 0, noBytes⟩ = true := by
    rw [valid_on _ _ _ _ ⟨by omega, by omega, by omega, by omega⟩, if_neg (by decide)]
    simp [noBytes, ByteArray.size]
  unfold takeS
  rw [if_neg (by simp [hg]), if_neg (by simp [hv]), if_neg (by simp), if_neg (by simp)]
  by_cases ht : t < n
  · rw [if_pos ht, if_pos ht, knows_nil _ _]
  · rw [if_neg ht, if_neg ht, knows_nil _ _]

/-- The question is answered. -/
theorem take_ask (ss : List ByteArray) (t : Int) (hg : goodB ⟨ss, 0, 0⟩ = true) (h0 : 0 ≤ t) (h1 : t < ss.length) :
    takeS ⟨ss, 0, 0⟩ ⟨2, t + 1, t, noBytes⟩ = ⟨(⟨ss, 0, 0⟩ : Sd).knows t, noBytes, (⟨ss, 0, 0⟩ : Sd).again (t + 1), 0⟩ := by
  obtain ⟨g1, g2, g3, g4, g5, g6⟩ := good_parts hg
  dsimp only at g1
  have hv : validB ⟨2, t + 1, t, noBytes⟩ = true := by
    rw [valid_on _ _ _ _ ⟨by omega, by omega, by omega, by omega⟩, if_neg (by decide)]
    simp [noBytes, ByteArray.size]; omega
  unfold takeS
  rw [if_neg (by simp [hg]), if_neg (by simp [hv]), if_neg (by simp), if_pos rfl]

/-- The frames of the answer. -/
theorem again_at (ss : List ByteArray) (t : Nat) (h : t < ss.length) :
    ((⟨ss, 0, 0⟩ : Sd).again ((t : Int) + 1)).length = min 64 (ss.length - t) := by
  simp only [Sd.again, List.length_map, List.length_range]
  omega
theorem again_get (ss : List ByteArray) (t k : Nat) (hk : k < ((⟨ss, 0, 0⟩ : Sd).again ((t : Int) + 1)).length) (hl : t + k < ss.length) :
    ((⟨ss, 0, 0⟩ : Sd).again ((t : Int) + 1))[k] = ⟨1, (t : Int) + k + 1, 0, ss[t + k]⟩ := by
  have e : ((t : Int) + 1 + (k : Int)).toNat - 1 = t + k := by omega
  simp only [Sd.again, List.getElem_map, List.getElem_range, Sd.data, Sd.msg, e, Fr.mk.injEq, true_and]
  exact ⟨by omega, by simp [List.getD, List.getElem?_eq_getElem hl]⟩

/-- Each message counts. -/
theorem take_data (t : Int) (b : ByteArray) (h0 : 0 ≤ t) (h1 : t ≤ 256) (hf : fitsB b = true) :
    takeS ⟨[], t, 0⟩ ⟨1, t + 1, 0, b⟩ = ⟨⟨[], t + 1, 0⟩, b, [], 0⟩ := by
  have hg : goodB ⟨[], t, 0⟩ = true := good_nil h0 (by omega)
  have hv : validB ⟨1, t + 1, 0, b⟩ = true := by
    rw [valid_on _ _ _ _ ⟨by omega, by omega, by omega, by omega⟩, if_pos rfl, hf]
    simp; omega
  unfold takeS
  rw [if_neg (by simp [hg]), if_neg (by simp [hv]), if_pos ⟨rfl, rfl⟩, knows_nil _ _]

end Go.Proofs.Ytnbndhmdfheikaa
