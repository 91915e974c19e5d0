/- Plain law for LinkCalm: a line that loses nothing. -/
import Derived.Test.YtnbndhmdfheikaaLI
namespace Go.Proofs.Ytnbndhmdfheikaa
open Go.RowKit

structure Calm (me j : Nat) (l : List ByteArray) (st : Lk) : Prop where
  em : st.e me = ⟨l, 0, 0⟩
  ej : st.e j = ⟨[], l.length, 0⟩
  um : st.u me = []
  uj : st.u j = []
  gj : st.g j = l
  gm : st.g me = []
  good : goodB ⟨l, 0, 0⟩ = true

theorem Calm.start (me j : Nat) : Calm me j [] st0 := ⟨rfl, rfl, rfl, rfl, rfl, rfl, by decide⟩

theorem calm_send {me j : Nat} (hj : 1 - me = j) (hm : 1 - j = me) (hne : me ≠ j) {l : List ByteArray} {st : Lk} (h : Calm me j l st) (m : ByteArray) :
    (fitsB m = false ∧ sendK st me m = (st, 11)) ∨ (fitsB m = true ∧ sendK st me m = (st, 40)) ∨
    ∃ st1 st2, sendK st me m = (st1, 0) ∧ (st1.u j).length = 1 ∧ comeK st1 j 0 false = (st2, 0) ∧ Calm me j (l ++ [m]) st2 ∧ 1 ≤ m.size := by
  have hnj := Ne.symm hne
  obtain ⟨g1, g2, g3, g4, g5, g6⟩ := good_parts h.good
  dsimp only at g1
  by_cases hf : fitsB m = false
  · left
    refine ⟨hf, ?_⟩
    have hs : sendS (st.e me) m = ⟨⟨[], 0, 0⟩, zeroFr, 11⟩ := by
      rw [h.em]
      unfold sendS
      rw [if_neg (by simp [h.good]), if_pos hf]
    unfold sendK
    rw [hs, if_neg (by decide)]
  · have hf' : fitsB m = true := by simpa using hf
    have hsz := (fits_size hf').1
    right
    by_cases hl : l.length = 256
    · left
      refine ⟨hf', ?_⟩
      have hs : sendS (st.e me) m = ⟨⟨[], 0, 0⟩, zeroFr, 40⟩ := by
        rw [h.em]
        unfold sendS
        rw [if_neg (by simp [h.good]), if_neg hf, if_pos hl]
      unfold sendK
      rw [hs, if_neg (by decide)]
    · right
      have hs : sendS (st.e me) m = ⟨⟨l ++ [m], 0, 0⟩, ⟨1, l.length + 1, 0, m⟩, 0⟩ := by
        rw [h.em]
        unfold sendS
        rw [if_neg (by simp [h.good]), if_neg hf, if_neg hl]
      have hg2 : goodB ⟨l ++ [m], 0, 0⟩ = true := by
        have := (send_stays (s := st.e me) (m := m) (by rw [h.em]; exact h.good) (by rw [hs])).1
        rwa [hs] at this
      obtain ⟨st1, h1⟩ : ∃ st1, st1 = (st.setE me ⟨l ++ [m], 0, 0⟩).setU j [⟨1, l.length + 1, 0, m⟩] := ⟨_, rfl⟩
      have e1 : sendK st me m = (st1, 0) := by
        unfold sendK
        rw [hs, if_pos rfl, hj, h.uj, h1]
        rfl
      have u1 : st1.u j = [⟨1, l.length + 1, 0, m⟩] := by rw [h1]; exact upd_same _ _ _
      have u1m : st1.u me = [] := by rw [h1]; exact (upd_other _ _ hne).trans h.um
      have ej1 : st1.e j = ⟨[], l.length, 0⟩ := by rw [h1]; exact (upd_other _ _ hnj).trans h.ej
      have em1 : st1.e me = ⟨l ++ [m], 0, 0⟩ := by rw [h1]; exact upd_same _ _ _
      have gg : st1.g = st.g := by rw [h1]; rfl
      have ht := take_data l.length m (Int.natCast_nonneg _) (by omega) hf'
      have hget : (st1.u j).getD (0 : Int).toNat default = ⟨1, l.length + 1, 0, m⟩ := by rw [u1]; rfl
      refine ⟨st1, tookK (offK st1 j 0 false) j ⟨⟨[], l.length + 1, 0⟩, m, [], 0⟩, e1, by rw [u1]; rfl, ?_, ?_, hsz⟩
      · unfold comeK
        rw [if_pos ⟨Int.le_refl _, by rw [u1]; simp⟩, hget, ej1, ht, if_pos rfl]
        rfl
      · have hoff : offK st1 j 0 false = st1.setU j [] := by
          unfold offK
          rw [if_neg (by decide), u1]
          rfl
        rw [hoff]
        unfold tookK
        rw [if_neg (by dsimp only; omega), hm]
        dsimp only
        refine ⟨?_, ?_, ?_, ?_, ?_, ?_, hg2⟩
        · exact (upd_other _ _ hne).trans em1
        · exact (upd_same _ _ _).trans (by simp)
        · refine (upd_same _ _ _).trans ?_
          show putU (upd st1.u j [] me) [] = []
          rw [upd_other _ _ hne, u1m]
          rfl
        · refine (upd_other _ _ hnj).trans ?_
          exact upd_same _ _ _
        · refine (upd_same _ _ _).trans ?_
          show st1.g j ++ [m] = _
          rw [gg, h.gj]
        · refine (upd_other _ _ hne).trans ?_
          show st1.g me = []
          rw [gg, h.gm]

theorem Calm.open_0 {l : List ByteArray} {st : Lk} (h : Calm 0 1 l st) : openK st = 0 := by
  unfold openK
  rw [h.em, h.ej]
  simp
theorem Calm.open_1 {l : List ByteArray} {st : Lk} (h : Calm 1 0 l st) : openK st = 0 := by
  unfold openK
  rw [h.em, h.ej]
  simp

end Go.Proofs.Ytnbndhmdfheikaa
