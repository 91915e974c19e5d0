/- Plain laws: from an end that can be every call leads to one that can be, and all frames that it answers can be. -/
import Derived.Test.YtnbndhmdfheikaaS0
namespace Go.Proofs.Ytnbndhmdfheikaa

theorem good_mk {s : Sd} (h1 : s.sent.length ≤ 256) (h2 : 0 ≤ s.known) (h3 : s.known ≤ s.sent.length) (h4 : 0 ≤ s.taken) (h5 : s.taken ≤ 1099511627776) (h6 : s.sent.all fitsB = true) : goodB s = true := by
  rw [good_true s h1 h2 h3 h4 h5, h6]

theorem fits_size {b : ByteArray} (h : fitsB b = true) : 1 ≤ b.size ∧ b.size ≤ 4096 := by simpa [fitsB] using h

theorem send_stays {s : Sd} {m : ByteArray} (hg : goodB s = true) (h0 : (sendS s m).e = 0) : goodB (sendS s m).s = true ∧ validB (sendS s m).f = true := by
  obtain ⟨g1, g2, g3, g4, g5, g6⟩ := good_parts hg
  unfold sendS at h0 ⊢
  rw [if_neg (by simp [hg])] at h0 ⊢
  by_cases hf : fitsB m = false
  · rw [if_pos hf] at h0; simp at h0
  rw [if_neg hf] at h0 ⊢
  by_cases hl : s.sent.length = 256
  · rw [if_pos hl] at h0; simp at h0
  rw [if_neg hl]
  have hf' : fitsB m = true := by simpa using hf
  refine ⟨good_mk ?_ g2 ?_ g4 g5 ?_, ?_⟩
  · simp; omega
  · simp; omega
  · simp only [List.all_append, g6, Bool.true_and]; simp [hf']
  · dsimp only
    rw [valid_on _ _ _ _ ⟨by omega, by omega, g4, g5⟩, if_pos rfl, hf']
    simp; omega

theorem tick_stays {s : Sd} (hg : goodB s = true) : validB (⟨3, s.sent.length, s.taken, noBytes⟩ : Fr) = true := by
  obtain ⟨g1, g2, g3, g4, g5, g6⟩ := good_parts hg
  rw [valid_on _ _ _ _ ⟨by omega, by omega, g4, g5⟩, if_neg (by decide)]
  simp [noBytes, ByteArray.size]

theorem all_at {ss : List ByteArray} (h : ss.all fitsB = true) {k : Nat} (hk : k < ss.length) : fitsB (ss.getD k ⟨#[]⟩) = true := by
  have : ss.getD k ⟨#[]⟩ = ss[k] := by simp [List.getD, List.getElem?_eq_getElem hk]
  rw [this]
  exact List.all_eq_true.1 h _ (List.getElem_mem hk)

theorem again_valid {s : Sd} (hg : goodB s = true) {q : Int} (h1 : 1 ≤ q) (h2 : q ≤ 1099511627776) : ∀ y ∈ s.again q, validB y = true := by
  obtain ⟨g1, g2, g3, g4, g5, g6⟩ := good_parts hg
  intro y hy
  simp only [Sd.again, List.mem_map, List.mem_range] at hy
  obtain ⟨i, hi, rfl⟩ := hy
  unfold Sd.data Sd.msg
  rw [valid_on _ _ _ _ ⟨by omega, by omega, g4, g5⟩, if_pos rfl, all_at g6 (by omega)]
  simp; omega

theorem again_len (s : Sd) (q : Int) : (s.again q).length ≤ 64 := by
  simp only [Sd.again, List.length_map, List.length_range]; omega

structure Stays (s : Sd) (r : TakeR) : Prop where
  frames : ∀ y ∈ r.l, validB y = true
  good : goodB r.s = true
  len : r.s.sent.length = s.sent.length
  t0 : s.taken ≤ r.s.taken
  t1 : r.s.taken ≤ s.taken + 1
  known : s.known ≤ r.s.known
  msg : 0 < r.m.size ↔ s.taken < r.s.taken
  burst : r.l.length ≤ 64

theorem knows_good {s : Sd} (hg : goodB s = true) {t : Int} (h0 : 0 ≤ t) : goodB (s.knows t) = true ∧ s.known ≤ (s.knows t).known := by
  obtain ⟨g1, g2, g3, g4, g5, g6⟩ := good_parts hg
  unfold Sd.knows
  by_cases h : s.known < t ∧ t ≤ s.sent.length
  · rw [if_pos h]; exact ⟨good_mk g1 (by dsimp only; omega) h.2 g4 g5 g6, by dsimp only; omega⟩
  · rw [if_neg h]; exact ⟨good_mk g1 g2 g3 g4 g5 g6, Int.le_refl _⟩

theorem take_err {s : Sd} {f : Fr} (hg : goodB s = true) (h : (takeS s f).e ≠ 0) : (takeS s f).m.size = 0 ∧ (takeS s f).l = [] := by
  unfold takeS at h ⊢
  rw [if_neg (by simp [hg])] at h ⊢
  by_cases hv : validB f = false
  · rw [if_pos hv]; exact ⟨rfl, rfl⟩
  rw [if_neg hv] at h
  repeat' split at h
  all_goals exact absurd rfl h

theorem take_stays {s : Sd} {f : Fr} (hg : goodB s = true) (h : (takeS s f).e = 0) : Stays s (takeS s f) := by
  obtain ⟨g1, g2, g3, g4, g5, g6⟩ := good_parts hg
  unfold takeS at h ⊢
  rw [if_neg (by simp [hg])] at h ⊢
  by_cases hv : validB f = false
  · rw [if_pos hv] at h; simp at h
  rw [if_neg hv] at h ⊢
  obtain ⟨v1, v2, v3, v4, v5⟩ := valid_parts (by simpa using hv)
  obtain ⟨k1, k2⟩ := knows_good hg v3
  obtain ⟨a1, a2, a3, a4, a5, a6⟩ := good_parts k1
  have kt : (s.knows f.taken).taken = s.taken := rfl
  have ks : (s.knows f.taken).sent = s.sent := rfl
  by_cases hd : f.kind = 1 ∧ f.num = s.taken + 1
  · rw [if_pos hd]
    have hb : fitsB f.body = true := by rcases v5 with v5 | v5 | v5 <;> first | exact v5.2.2 | omega
    refine ⟨by simp, good_mk g1 a2 a3 (by dsimp only; omega) (by dsimp only; omega) g6, rfl, by dsimp only; omega, by dsimp only; omega, k2, ?_, by simp⟩
    have := fits_size hb
    dsimp only
    constructor <;> intro _ <;> omega
  rw [if_neg hd]
  have hno : (0 < noBytes.size ↔ s.taken < s.taken) := by simp [noBytes, ByteArray.size]
  by_cases h2 : f.kind = 2
  · rw [if_pos h2]
    have hn1 : 1 ≤ f.num := by rcases v5 with v5 | v5 | v5 <;> omega
    exact ⟨again_valid hg hn1 v2, k1, rfl, Int.le_refl _, by dsimp only; rw [kt]; omega, k2, hno, again_len s _⟩
  rw [if_neg h2]
  by_cases hx : s.taken < f.num
  · rw [if_pos hx]
    refine ⟨?_, k1, rfl, Int.le_refl _, by dsimp only; rw [kt]; omega, k2, hno, by simp⟩
    intro y hy
    simp only [List.mem_singleton] at hy
    subst hy
    rw [valid_on _ _ _ _ ⟨by omega, by omega, g4, g5⟩, if_neg (by decide)]
    simp [noBytes, ByteArray.size]; omega
  · rw [if_neg hx]
    exact ⟨by simp, k1, rfl, Int.le_refl _, by dsimp only; rw [kt]; omega, k2, hno, by simp⟩

end Go.Proofs.Ytnbndhmdfheikaa
