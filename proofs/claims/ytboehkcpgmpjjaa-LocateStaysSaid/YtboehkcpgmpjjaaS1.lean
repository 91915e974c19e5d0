/- Plain laws: what Reserve keeps. -/
import Derived.Test.YtboehkcpgmpjjaaG1
namespace Go.Proofs.Ytboehkcpgmpjjaa
open Go.RowKit

/-- In its bounds. -/
def okL (a n : Int) (y : Lc) : Prop := 2 ≤ y.acct ∧ y.acct < a ∧ 0 ≤ y.instr ∧ y.instr < n ∧ 1 ≤ y.qty ∧ y.qty ≤ 1000000000
def ltL (x y : Lc) : Prop := cmpL x y < 0

theorem pair_sorted {l : List Lc} : l.Pairwise ltL ↔ Sorted l := by
  rw [List.pairwise_iff_getElem]
  constructor
  · intro h i j hij hj
    rw [getD_lt (by omega), getD_lt hj]
    exact h i j (by omega) hj hij
  · intro h i j hi hj hij
    have := h i j hij hj
    rwa [getD_lt (by omega), getD_lt hj] at this

theorem good_iff (av : List Int) (l : List Lc) (a n : Int) : goodB av l a n = true ↔ ((av.length : Int) = n ∧ l.length ≤ 32 ∧ av.all fitsQ = true ∧ (∀ y ∈ l, okL a n y) ∧ l.Pairwise ltL) := by
  rw [goodB_eq]
  simp only [Bool.and_eq_true, decide_eq_true_eq]
  constructor
  · rintro ⟨⟨h1, h2⟩, h3, h4⟩
    have h5 := (upto_iff _ _).1 h4
    refine ⟨h1, h2, h3, fun y hy => ?_, ?_⟩
    · obtain ⟨j, hj, rfl⟩ := List.mem_iff_getElem.1 hy
      have := h5 j hj
      simp only [bothAt, tidyAt, inAt, Bool.and_eq_true, decide_eq_true_eq, fitsQ] at this
      rw [getD_lt hj] at this
      unfold okL
      omega
    · rw [pair_sorted]
      refine sorted_of l ((upto_iff _ _).2 fun j hj => ?_)
      have := h5 j hj
      simp only [bothAt, Bool.and_eq_true] at this
      exact this.1
  · rintro ⟨h1, h2, h3, h4, h5⟩
    rw [pair_sorted] at h5
    refine ⟨⟨h1, h2⟩, h3, (upto_iff _ _).2 fun j hj => ?_⟩
    have hy := h4 _ (List.getElem_mem hj)
    unfold okL at hy
    simp only [bothAt, tidyAt, inAt, ordAt, Bool.and_eq_true, decide_eq_true_eq, fitsQ]
    rw [getD_lt hj]
    refine ⟨⟨by omega, ?_⟩, by omega⟩
    by_cases h0 : j = 0
    · exact .inl h0
    · right
      have := h5 (j - 1) j (by omega) hj
      rwa [getD_lt hj] at this

/-- A list of reservations about a key: what lies before, what is there, what lies behind. -/
structure Cut (l : List Lc) (a i : Int) (T M D : List Lc) : Prop where
  eq : l = T ++ (M ++ D)
  lo : ∀ y ∈ T, cmpL y ⟨a, i, 0⟩ < 0
  hi : ∀ y ∈ D, cmpL ⟨a, i, 0⟩ y < 0
  mid : M = [] ∨ ∃ q, M = [⟨a, i, q⟩]

theorem cmpL_key (a i q : Int) (y : Lc) : cmpL y ⟨a, i, q⟩ = cmpL y ⟨a, i, 0⟩ := rfl
theorem cmpL_key' (a i q : Int) (y : Lc) : cmpL ⟨a, i, q⟩ y = cmpL ⟨a, i, 0⟩ y := rfl

section
variable {l T M D : List Lc} {a i : Int}
theorem Cut.no (h : Cut l a i T M D) : (∀ y ∈ T, keyB a i y = false) ∧ (∀ y ∈ D, keyB a i y = false) := by
  constructor
  · intro y hy
    have := h.lo y hy
    rw [key_cmp a i 0]
    exact decide_eq_false (by omega)
  · intro y hy
    have h1 := h.hi y hy
    rw [key_cmp a i 0]
    refine decide_eq_false fun h2 => ?_
    rw [cmpL_zero] at h2
    rw [cmpL_lt] at h1
    dsimp only at h1 h2
    omega
def midQ (M : List Lc) : Int := match M with | [] => 0 | y :: _ => y.qty
theorem Cut.held (h : Cut l a i T M D) : heldL l a i = midQ M := by
  obtain ⟨n1, n2⟩ := h.no
  have f1 : T.find? (keyB a i) = none := List.find?_eq_none.2 fun y hy => by simp [n1 y hy]
  have f2 : D.find? (keyB a i) = none := List.find?_eq_none.2 fun y hy => by simp [n2 y hy]
  have e := h.eq
  have hm := h.mid
  clear h n1 n2
  subst e
  unfold heldL
  rw [List.find?_append, f1, List.find?_append, f2]
  rcases hm with rfl | ⟨q, rfl⟩
  · rfl
  · simp [keyB, midQ]
theorem Cut.other (h : Cut l a i T M D) {b j : Int} (hne : ¬ (b = a ∧ j = i)) : heldL l b j = heldL (T ++ D) b j := by
  have fm : M.find? (keyB b j) = none := by
    rcases h.mid with rfl | ⟨q, rfl⟩
    · rfl
    · rw [List.find?_cons_of_neg (by simp [keyB]; intro h1 h2; exact hne ⟨h1.symm, h2.symm⟩)]
      rfl
  unfold heldL
  rw [h.eq, List.find?_append, List.find?_append, fm, Option.none_or, ← List.find?_append]
theorem Cut.place (h : Cut l a i T M D) : place l ⟨a, i, 0⟩ = T.length ∧ thereB l ⟨a, i, 0⟩ = !M.isEmpty := by
  have hp : Ytboehkcpgmpjjaa.place l ⟨a, i, 0⟩ = T.length := by
    refine place_eq (by rw [h.eq, List.length_append]; omega) (fun j hj => ?_) (fun j hj hjl => ?_)
    · have : l.getD j default = T[j] := by rw [getD_lt (by rw [h.eq, List.length_append]; omega)]; simp [h.eq, hj]
      rw [this]
      exact h.lo _ (List.getElem_mem hj)
    · have hm : l.getD j default ∈ M ++ D := by
        rw [getD_lt hjl]
        simp only [h.eq]
        rw [List.getElem_append_right hj]
        exact List.getElem_mem _
      rcases List.mem_append.1 hm with h1 | h1
      · rcases h.mid with rfl | ⟨q, rfl⟩
        · cases h1
        · rw [List.mem_singleton.1 h1]
          have := @cmpL_zero ⟨a, i, q⟩ ⟨a, i, 0⟩
          have e := this.2 ⟨rfl, rfl⟩
          omega
      · have := h.hi _ h1
        intro hc
        have := cmpL_trans hc this
        have e := (@cmpL_zero (l.getD j default) (l.getD j default)).2 ⟨rfl, rfl⟩
        omega
  refine ⟨hp, ?_⟩
  unfold thereB
  rw [hp]
  rcases h.mid with hM | ⟨q, hM⟩
  · subst hM
    by_cases hd : T.length < l.length
    · have hm : l.getD T.length default ∈ D := by
        rw [getD_lt hd]
        simp only [h.eq, List.nil_append]
        rw [List.getElem_append_right (Nat.le_refl _)]
        exact List.getElem_mem _
      have := h.hi _ hm
      rw [decide_eq_false (show ¬ cmpL (l.getD T.length default) ⟨a, i, 0⟩ = 0 from fun hc => by
        rw [cmpL_zero] at hc
        rw [cmpL_lt] at this
        dsimp only at this hc
        omega), Bool.and_false]
      rfl
    · rw [decide_eq_false hd]; rfl
  · subst hM
    have hd : T.length < l.length := by rw [h.eq]; simp
    have e : l.getD T.length default = ⟨a, i, q⟩ := by rw [getD_lt hd]; simp [h.eq]
    rw [decide_eq_true hd, e, decide_eq_true ((@cmpL_zero ⟨a, i, q⟩ ⟨a, i, 0⟩).2 ⟨rfl, rfl⟩)]
    rfl
/-- Another amount laid in. -/
theorem Cut.put (h : Cut l a i T M D) (x : Lc) : putL l (Ytboehkcpgmpjjaa.place l ⟨a, i, 0⟩) (thereB l ⟨a, i, 0⟩) x = T ++ ((if x.qty = 0 then [] else [x]) ++ D) := by
  obtain ⟨h1, h2⟩ := h.place
  rw [h1, h2]
  unfold putL
  have e1 : l.take T.length = T := by rw [h.eq]; exact List.take_left' rfl
  have e2 : l.drop (if (!M.isEmpty) = true then T.length + 1 else T.length) = D := by
    rcases h.mid with rfl | ⟨q, rfl⟩
    · rw [if_neg (by simp), h.eq]; exact List.drop_left' rfl
    · rw [if_pos (by simp), h.eq, ← List.append_assoc]; exact List.drop_left' (by simp)
  rw [e1, e2]
theorem Cut.anew (h : Cut l a i T M D) (q : Int) : Cut (T ++ ((if q = 0 then [] else [⟨a, i, q⟩]) ++ D)) a i T (if q = 0 then [] else [⟨a, i, q⟩]) D :=
  ⟨rfl, h.lo, h.hi, by split; exact .inl rfl; exact .inr ⟨q, rfl⟩⟩
end

/-- Every list in its order can be cut. -/
theorem cut_of {l : List Lc} (hs : Sorted l) (a i : Int) : ∃ T M D, Cut l a i T M D := by
  obtain ⟨h1, h2, h3⟩ := hs.place ⟨a, i, 0⟩
  obtain ⟨p, hp⟩ : ∃ p, p = place l ⟨a, i, 0⟩ := ⟨_, rfl⟩
  rw [← hp] at h1 h2 h3
  have lo : ∀ y ∈ l.take p, cmpL y ⟨a, i, 0⟩ < 0 := fun y hy => by
    obtain ⟨j, hj, rfl⟩ := List.mem_iff_getElem.1 hy
    rw [List.length_take] at hj
    have := h2 j (by omega)
    rw [getD_lt (by omega)] at this
    simpa using this
  have up : ∀ j, p ≤ j → ∀ (hj : j < l.length), ¬ (l[j].acct = a ∧ l[j].instr = i) → cmpL ⟨a, i, 0⟩ l[j] < 0 := fun j hpj hj hne => by
    have := h3 j hpj hj
    rw [getD_lt hj] at this
    rw [cmpL_lt] at this ⊢
    dsimp only at this ⊢
    omega
  by_cases hpl : p < l.length
  · by_cases hk : l[p].acct = a ∧ l[p].instr = i
    · refine ⟨l.take p, [l[p]], l.drop (p + 1), ⟨?_, lo, fun y hy => ?_, .inr ⟨l[p].qty, by rw [← hk.1, ← hk.2]⟩⟩⟩
      · rw [List.singleton_append, ← List.drop_eq_getElem_cons hpl, List.take_append_drop]
      · obtain ⟨j, hj, rfl⟩ := List.mem_iff_getElem.1 hy
        rw [List.length_drop] at hj
        rw [List.getElem_drop]
        refine up _ (by omega) (by omega) fun hk2 => ?_
        have := hs p (p + 1 + j) (by omega) (by omega)
        rw [getD_lt hpl, getD_lt (by omega), cmpL_lt] at this
        omega
    · refine ⟨l.take p, [], l.drop p, ⟨by rw [List.nil_append, List.take_append_drop], lo, fun y hy => ?_, .inl rfl⟩⟩
      obtain ⟨j, hj, rfl⟩ := List.mem_iff_getElem.1 hy
      rw [List.length_drop] at hj
      rw [List.getElem_drop]
      refine up _ (by omega) (by omega) fun hk2 => ?_
      rcases Nat.eq_zero_or_pos j with rfl | h0
      · exact hk hk2
      · have h4 := hs p (p + j) (by omega) (by omega)
        rw [getD_lt hpl, getD_lt (by omega), cmpL_lt] at h4
        have h5 := up p (Nat.le_refl _) hpl hk
        rw [cmpL_lt] at h5
        dsimp only at h5
        omega
  · exact ⟨l, [], [], ⟨by simp, (fun y hy => lo y (by rwa [List.take_of_length_le (by omega)])), (fun y hy => nomatch hy), Or.inl rfl⟩⟩

end Go.Proofs.Ytboehkcpgmpjjaa
