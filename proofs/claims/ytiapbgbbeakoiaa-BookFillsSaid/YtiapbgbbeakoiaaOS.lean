/- Plain: a list about a key. By gen_s.py. -/
import Derived.Test.YtiapbgbbeakoiaaOG4
namespace Go.Proofs.Ytiapbgbbeakoiaa.O
open Go.RowKit

def ltL (x y : Lc) : Prop := cmpL x y < 0
theorem pair_sorted {l : List Lc} : l.Pairwise ltL ↔ Sorted l := by
  rw [List.pairwise_iff_getElem]
  constructor
  · intro h i j hij hj
    rw [getD_lt (by omega), getD_lt hj]
    exact h i j (by omega) hj hij
  · intro h i j hi hj hij
    have := h i j hij hj
    rwa [getD_lt (by omega), getD_lt hj] at this

theorem good_iff (ac nc : Int) (l : List Lc) : goodB ac nc l = true ↔ (l.length ≤ 32 ∧ (∀ y ∈ l, okB ac nc y = true) ∧ l.Pairwise ltL) := by
  unfold goodB
  rw [Bool.and_eq_true, Bool.and_eq_true, decide_eq_true_eq, List.all_eq_true, pair_sorted]
  exact ⟨fun ⟨h1, h2, h3⟩ => ⟨h1, h3, sorted_of l h2⟩, fun ⟨h1, h3, h2⟩ => ⟨h1, rise_of l h2, h3⟩⟩
theorem good_sorted {ac nc : Int} {l : List Lc} (h : goodB ac nc l = true) : Sorted l := pair_sorted.1 ((good_iff ac nc l).1 h).2.2
theorem good_tidy {ac nc : Int} {l : List Lc} (h : goodB ac nc l = true) : tidyB l = true := by
  rw [good_ref, Bool.and_eq_true, Bool.and_eq_true] at h
  exact h.2.1

theorem is_iff (y : Lc) (a i : Int) : y.is a i = true ↔ (y.acct = a ∧ y.id = i) := by
  unfold Lc.is
  rw [decide_eq_true_eq]
theorem is_false (y : Lc) (a i : Int) : y.is a i = false ↔ ¬ (y.acct = a ∧ y.id = i) := by
  unfold Lc.is
  rw [decide_eq_false_iff_not]

/-- A list about a key: what lies before, what is there, what lies behind. -/
structure About (l : List Lc) (a i : Int) (T M D : List Lc) : Prop where
  eq : l = T ++ (M ++ D)
  lo : ∀ y ∈ T, cmpL y ⟨a, i, 0, 0, 0⟩ < 0
  hi : ∀ y ∈ D, cmpL ⟨a, i, 0, 0, 0⟩ y < 0
  mid : M = [] ∨ ∃ x : Lc, M = [x] ∧ x.acct = a ∧ x.id = i

section
variable {l T M D : List Lc} {a i : Int}
theorem About.no (h : About l a i T M D) : (∀ y ∈ T, y.is a i = false) ∧ (∀ y ∈ D, y.is a i = false) := by
  constructor
  · intro y hy
    have := h.lo y hy
    rw [is_false]
    rw [cmpL_lt] at this
    dsimp only at this
    omega
  · intro y hy
    have := h.hi y hy
    rw [is_false]
    rw [cmpL_lt] at this
    dsimp only at this
    omega
theorem About.place (h : About l a i T M D) : place l ⟨a, i, 0, 0, 0⟩ = T.length ∧ thereB l ⟨a, i, 0, 0, 0⟩ = !M.isEmpty := by
  have hp : Ytiapbgbbeakoiaa.O.place l ⟨a, i, 0, 0, 0⟩ = T.length := by
    refine place_eq (by rw [h.eq, List.length_append]; omega) (fun j hj => ?_) (fun j hj hjl => ?_)
    · have : l.getD j default = T[j] := by rw [getD_lt (by rw [h.eq, List.length_append]; omega)]; simp [h.eq, hj]
      rw [this]
      exact h.lo _ (List.getElem_mem hj)
    · have hm : l.getD j default ∈ M ++ D := by
        rw [getD_lt hjl]
        simp only [h.eq]
        rw [List.getElem_append_right hj]
        exact List.getElem_mem _
      rcases List.mem_append.1 hm with h1 | h1
      · rcases h.mid with rfl | ⟨x, rfl, e1, e2⟩
        · cases h1
        · rw [List.mem_singleton.1 h1, cmpL_lt]
          dsimp only
          omega
      · have := h.hi _ h1
        rw [cmpL_lt] at this ⊢
        dsimp only at this ⊢
        omega
  refine ⟨hp, ?_⟩
  unfold thereB
  rw [hp]
  rcases h.mid with hM | ⟨x, hM, e1, e2⟩
  · subst hM
    by_cases hd : T.length < l.length
    · have hm : l.getD T.length default ∈ D := by
        rw [getD_lt hd]
        simp only [h.eq, List.nil_append]
        rw [List.getElem_append_right (Nat.le_refl _)]
        exact List.getElem_mem _
      have := h.hi _ hm
      rw [decide_eq_false (show ¬ cmpL (l.getD T.length default) ⟨a, i, 0, 0, 0⟩ = 0 from fun hc => by
        rw [cmpL_zero] at hc
        rw [cmpL_lt] at this
        dsimp only at this hc
        omega), Bool.and_false]
      rfl
    · rw [decide_eq_false hd]; rfl
  · subst hM
    have hd : T.length < l.length := by rw [h.eq]; simp
    have e : l.getD T.length default = x := by rw [getD_lt hd]; simp [h.eq]
    rw [decide_eq_true hd, e, decide_eq_true ((@cmpL_zero x ⟨a, i, 0, 0, 0⟩).2 ⟨e1, e2⟩)]
    rfl
theorem About.take (h : About l a i T M D) : l.take T.length = T := by rw [h.eq]; exact List.take_left' rfl
theorem About.drop0 (h : About l a i T [] D) : l.drop T.length = D := by rw [h.eq]; exact List.drop_left' rfl
theorem About.drop1 {x : Lc} (h : About l a i T [x] D) : l.drop (T.length + 1) = D := by rw [h.eq, ← List.append_assoc]; exact List.drop_left' (by simp)
theorem About.at1 {x : Lc} (h : About l a i T [x] D) : l.getD T.length default = x := by
  have hd : T.length < l.length := by rw [h.eq]; simp
  rw [getD_lt hd]; simp [h.eq]
theorem About.set1 {x : Lc} (h : About l a i T [x] D) (y : Int) : putQ l T.length y = T ++ ([{ x with qty := y }] ++ D) := by
  unfold putQ
  rw [h.at1, h.eq]
  simp
theorem About.len (h : About l a i T M D) : l.length = T.length + (M.length + D.length) := by rw [h.eq]; simp
/-- Another one there. -/
theorem About.anew (h : About l a i T M D) {M' : List Lc} (hm : M' = [] ∨ ∃ x : Lc, M' = [x] ∧ x.acct = a ∧ x.id = i) : About (T ++ (M' ++ D)) a i T M' D := ⟨rfl, h.lo, h.hi, hm⟩
theorem About.good {ac nc : Int} (h : About l a i T M D) (hg : goodB ac nc l = true) {M' : List Lc} (hm : M' = [] ∨ ∃ x : Lc, M' = [x] ∧ x.acct = a ∧ x.id = i) (hok : ∀ x ∈ M', okB ac nc x = true)
    (hroom : (T ++ (M' ++ D)).length ≤ 32) : goodB ac nc (T ++ (M' ++ D)) = true := by
  obtain ⟨g2, g4, g5⟩ := (good_iff ac nc l).1 hg
  refine (good_iff _ _ _).2 ⟨hroom, fun y hy => ?_, ?_⟩
  · rcases List.mem_append.1 hy with h1 | h1
    · exact g4 y (by rw [h.eq]; exact List.mem_append_left _ h1)
    · rcases List.mem_append.1 h1 with h2 | h2
      · exact hok y h2
      · exact g4 y (by rw [h.eq]; exact List.mem_append_right _ (List.mem_append_right _ h2))
  · rw [h.eq, List.pairwise_append, List.pairwise_append] at g5
    obtain ⟨p1, ⟨_, p2, _⟩, p3⟩ := g5
    rw [List.pairwise_append, List.pairwise_append]
    have near : ∀ x ∈ M', ∀ y : Lc, (cmpL y x = cmpL y ⟨a, i, 0, 0, 0⟩) ∧ (cmpL x y = cmpL ⟨a, i, 0, 0, 0⟩ y) := fun x hx y => by
      rcases hm with rfl | ⟨x', rfl, e1, e2⟩
      · cases hx
      · rw [List.mem_singleton.1 hx]
        unfold cmpL
        rw [e1, e2]
        exact ⟨rfl, rfl⟩
    refine ⟨p1, ⟨?_, p2, ?_⟩, ?_⟩
    · rcases hm with rfl | ⟨x, rfl, _, _⟩
      · exact List.Pairwise.nil
      · exact List.pairwise_singleton _ _
    · intro x hx y hy
      unfold ltL
      rw [(near x hx y).2]
      exact h.hi y hy
    · intro x hx y hy
      rcases List.mem_append.1 hy with h2 | h2
      · unfold ltL
        rw [(near y h2 x).1]
        exact h.lo x hx
      · exact p3 x hx y (List.mem_append_right _ h2)
end

/-- Every list in its order lies about every key. -/
theorem about_of {l : List Lc} (hs : Sorted l) (a i : Int) : ∃ T M D, About l a i T M D := by
  obtain ⟨h1, h2, h3⟩ := hs.place ⟨a, i, 0, 0, 0⟩
  obtain ⟨p, hp⟩ : ∃ p, p = place l ⟨a, i, 0, 0, 0⟩ := ⟨_, rfl⟩
  rw [← hp] at h1 h2 h3
  have lo : ∀ y ∈ l.take p, cmpL y ⟨a, i, 0, 0, 0⟩ < 0 := fun y hy => by
    obtain ⟨j, hj, rfl⟩ := List.mem_iff_getElem.1 hy
    rw [List.length_take] at hj
    have := h2 j (by omega)
    rw [getD_lt (by omega)] at this
    simpa using this
  have up : ∀ j, p ≤ j → ∀ (hj : j < l.length), ¬ (l[j].acct = a ∧ l[j].id = i) → cmpL ⟨a, i, 0, 0, 0⟩ l[j] < 0 := fun j hpj hj hne => by
    have := h3 j hpj hj
    rw [getD_lt hj] at this
    rw [cmpL_lt] at this ⊢
    dsimp only at this ⊢
    omega
  by_cases hpl : p < l.length
  · by_cases hk : l[p].acct = a ∧ l[p].id = i
    · refine ⟨l.take p, [l[p]], l.drop (p + 1), ⟨?_, lo, fun y hy => ?_, .inr ⟨l[p], rfl, hk.1, hk.2⟩⟩⟩
      · rw [List.singleton_append, ← List.drop_eq_getElem_cons hpl, List.take_append_drop]
      · obtain ⟨j, hj, rfl⟩ := List.mem_iff_getElem.1 hy
        rw [List.length_drop] at hj
        rw [List.getElem_drop]
        refine up _ (by omega) (by omega) fun hk2 => ?_
        have := hs p (p + 1 + j) (by omega) (by omega)
        rw [getD_lt hpl, getD_lt (by omega), cmpL_lt] at this
        omega
    · refine ⟨l.take p, [], l.drop p, ⟨by rw [List.nil_append, List.take_append_drop], lo, fun y hy => ?_, .inl rfl⟩⟩
      obtain ⟨j, hj, rfl⟩ := List.mem_iff_getElem.1 hy
      rw [List.length_drop] at hj
      rw [List.getElem_drop]
      refine up _ (by omega) (by omega) fun hk2 => ?_
      rcases Nat.eq_zero_or_pos j with rfl | h0
      · exact hk hk2
      · have h4 := hs p (p + j) (by omega) (by omega)
        rw [getD_lt hpl, getD_lt (by omega), cmpL_lt] at h4
        have h5 := up p (Nat.le_refl _) hpl hk
        rw [cmpL_lt] at h5
        dsimp only at h5
        omega
  · exact ⟨l, [], [], ⟨by simp, (fun y hy => lo y (by rwa [List.take_of_length_le (by omega)])), (fun y hy => nomatch hy), Or.inl rfl⟩⟩
/-- One that stands in the list stands in its midst. -/
theorem about_mem {l : List Lc} (hs : Sorted l) {x : Lc} (hx : x ∈ l) : ∃ T D, About l x.acct x.id T [x] D := by
  obtain ⟨T, M, D, h⟩ := about_of hs x.acct x.id
  have hm : x ∈ M := by
    obtain ⟨n1, n2⟩ := h.no
    rw [h.eq] at hx
    have hi := (is_iff x x.acct x.id).2 ⟨rfl, rfl⟩
    rcases List.mem_append.1 hx with h1 | h1
    · rw [n1 x h1] at hi; cases hi
    · rcases List.mem_append.1 h1 with h2 | h2
      · exact h2
      · rw [n2 x h2] at hi; cases hi
  rcases h.mid with rfl | ⟨y, rfl, _, _⟩
  · cases hm
  · rw [List.mem_singleton.1 hm] at h ⊢
    exact ⟨T, D, h⟩

end Go.Proofs.Ytiapbgbbeakoiaa.O
