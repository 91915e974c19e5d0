/- Plain laws: what Reserve keeps, and that it is undone. -/
import Derived.Test.YtboehkcpgmpjjaaS1
namespace Go.Proofs.Ytboehkcpgmpjjaa
open Go.RowKit

theorem reserveS_bad (av : List Int) (l : List Lc) (a i q : Int) : (reserveS av l a i q).2.2 = 0 ∨ ((reserveS av l a i q).1 = [] ∧ (reserveS av l a i q).2.1 = []) := by
  unfold reserveS
  repeat' split
  all_goals first | exact .inl rfl | exact .inr ⟨rfl, rfl⟩

theorem midQ_pos {l T M D : List Lc} {a i n : Int} (h : Cut l a i T M D) (hok : ∀ y ∈ l, okL 16 n y) : (M = [] ∧ midQ M = 0) ∨ (∃ q, M = [⟨a, i, q⟩] ∧ midQ M = q ∧ 1 ≤ q ∧ q ≤ 1000000000) := by
  rcases h.mid with hM | ⟨q, hM⟩
  · exact .inl ⟨hM, by rw [hM]; rfl⟩
  · have := hok ⟨a, i, q⟩ (by rw [h.eq, hM]; simp)
    exact .inr ⟨q, hM, by rw [hM]; rfl, this.2.2.2.2.1, this.2.2.2.2.2⟩

theorem good_sorted {av : List Int} {l : List Lc} {n : Int} (hg : goodB av l 16 n = true) : Sorted l := pair_sorted.1 ((good_iff av l 16 n).1 hg).2.2.2.2
theorem good_held {av : List Int} {l : List Lc} {n : Int} (hg : goodB av l 16 n = true) (a i : Int) : 0 ≤ heldL l a i ∧ heldL l a i ≤ 1000000000 := by
  obtain ⟨T, M, D, hc⟩ := cut_of (good_sorted hg) a i
  rw [hc.held]
  rcases midQ_pos hc ((good_iff av l 16 n).1 hg).2.2.2.1 with ⟨_, h⟩ | ⟨q, _, h, h1, h2⟩ <;> omega
theorem good_av {av : List Int} {l : List Lc} {n : Int} (hg : goodB av l 16 n = true) {k : Nat} (hk : k < av.length) : 0 ≤ av.getD k 0 ∧ av.getD k 0 ≤ 1000000000 := by
  have h := ((good_iff av l 16 n).1 hg).2.2.1
  have := List.all_eq_true.1 h _ (List.getElem_mem hk)
  unfold fitsQ at this
  rw [decide_eq_true_eq] at this
  rw [getD_lt hk]
  exact this

theorem Cut.good {av : List Int} {l T M D : List Lc} {a i n : Int} (h : Cut l a i T M D) (hg : goodB av l 16 n = true) {av' : List Int} (hav : av'.all fitsQ = true) (hlen : (av'.length : Int) = n)
    (ha : 2 ≤ a ∧ a ≤ 15) (hi : 0 ≤ i ∧ i < n) {q : Int} (hq : 0 ≤ q ∧ q ≤ 1000000000) (hroom : (T ++ ((if q = 0 then [] else [(⟨a, i, q⟩ : Lc)]) ++ D)).length ≤ 32) :
    goodB av' (T ++ ((if q = 0 then [] else [⟨a, i, q⟩]) ++ D)) 16 n = true := by
  obtain ⟨g1, g2, g3, g4, g5⟩ := (good_iff av l 16 n).1 hg
  refine (good_iff _ _ _ _).2 ⟨hlen, hroom, hav, fun y hy => ?_, ?_⟩
  · rcases List.mem_append.1 hy with h1 | h1
    · exact g4 y (by rw [h.eq]; exact List.mem_append_left _ h1)
    · rcases List.mem_append.1 h1 with h2 | h2
      · by_cases hq0 : q = 0
        · rw [if_pos hq0] at h2; cases h2
        · rw [if_neg hq0] at h2
          rw [List.mem_singleton.1 h2]
          exact ⟨ha.1, (by show a < 16; omega), hi.1, hi.2, (by show 1 ≤ q; omega), hq.2⟩
      · exact g4 y (by rw [h.eq]; exact List.mem_append_right _ (List.mem_append_right _ h2))
  · rw [h.eq, List.pairwise_append, List.pairwise_append] at g5
    obtain ⟨p1, ⟨_, p2, _⟩, p3⟩ := g5
    rw [List.pairwise_append, List.pairwise_append]
    refine ⟨p1, ⟨?_, p2, ?_⟩, ?_⟩
    · split
      · exact List.Pairwise.nil
      · exact List.pairwise_singleton _ _
    · intro x hx y hy
      by_cases hq0 : q = 0
      · rw [if_pos hq0] at hx; cases hx
      · rw [if_neg hq0] at hx
        rw [List.mem_singleton.1 hx]
        exact h.hi y hy
    · intro x hx y hy
      rcases List.mem_append.1 hy with h2 | h2
      · by_cases hq0 : q = 0
        · rw [if_pos hq0] at h2; cases h2
        · rw [if_neg hq0] at h2
          rw [List.mem_singleton.1 h2]
          exact h.lo x hx
      · exact p3 x hx y (List.mem_append_right _ h2)

/-- What Reserve keeps. -/
structure Kept (av : List Int) (l : List Lc) (a i q n : Int) (av' : List Int) (l' : List Lc) : Prop where
  good : goodB av' l' 16 n = true
  held : heldL l' a i = heldL l a i + q
  other : ∀ b j, ¬ (b = a ∧ j = i) → heldL l' b j = heldL l b j
  avs : ∀ k : Nat, k < av.length → av'.getD k 0 = if (k : Int) = i then av.getD k 0 - q else av.getD k 0
  back : reserveS av' l' a i (-q) = (av, l, 0)
  ins : 0 ≤ i ∧ i < n
  qs : -1000000000 ≤ q ∧ q ≤ 1000000000

theorem midQ_if (a i h : Int) : midQ (if h = 0 then [] else [⟨a, i, h⟩]) = h := by
  by_cases h0 : h = 0
  · rw [if_pos h0, h0]; rfl
  · rw [if_neg h0]; rfl

theorem kept {av : List Int} {l : List Lc} {a i q n : Int} (hg : goodB av l 16 n = true) (ha : 2 ≤ a ∧ a ≤ 15) {av' : List Int} {l' : List Lc} (h : reserveS av l a i q = (av', l', 0)) : Kept av l a i q n av' l' := by
  obtain ⟨T, M, D, hc⟩ := cut_of (good_sorted hg) a i
  obtain ⟨g1, g2, g3, g4, g5⟩ := (good_iff av l 16 n).1 hg
  have hh := good_held hg a i
  obtain ⟨H, hH⟩ : ∃ H, H = heldL l a i := ⟨_, rfl⟩
  rw [← hH] at hh
  unfold reserveS at h
  rw [← hH] at h
  split at h
  · cases h
  rename_i c1
  split at h
  · cases h
  rename_i c2
  split at h
  · cases h
  rename_i c3
  split at h
  · cases h
  rename_i c4
  split at h
  · cases h
  rename_i c5
  rw [hc.put] at h
  dsimp only at h
  simp only [Prod.mk.injEq, and_true] at h
  obtain ⟨rfl, rfl⟩ := h
  rw [hc.place.2] at c5
  obtain ⟨k, hk⟩ : ∃ k : Nat, i = (k : Int) := ⟨i.toNat, by omega⟩
  subst hk
  have hkl : k < av.length := by omega
  have hav := good_av hg hkl
  rw [Int.toNat_natCast] at c3 c4 ⊢
  obtain ⟨V, hV⟩ : ∃ V, V = av.getD k 0 := ⟨_, rfl⟩
  rw [← hV] at c3 c4 hav ⊢
  have hall : (av.set k (V - q)).all fitsQ = true := by
    rw [List.all_eq_true]
    intro x hx
    rcases List.mem_or_eq_of_mem_set hx with h1 | h1
    · exact List.all_eq_true.1 g3 x h1
    · rw [h1]; exact decide_eq_true (by omega)
  have hM := midQ_pos hc g4
  have hHM : H = midQ M := by rw [hH, hc.held]
  have hlenl : l.length = T.length + (M.length + D.length) := by rw [hc.eq]; simp
  have hroom : (T ++ ((if H + q = 0 then [] else [(⟨a, (k : Int), H + q⟩ : Lc)]) ++ D)).length ≤ 32 := by
    rw [List.length_append, List.length_append]
    rcases hM with ⟨m1, m2⟩ | ⟨r, m1, m2, m3, m4⟩
    · rw [m1] at hlenl c5
      simp at hlenl c5
      split
      · simp; omega
      · rename_i hne
        have := c5 hne
        simp; omega
    · rw [m1] at hlenl
      simp at hlenl
      split <;> simp <;> omega
  have hg' := hc.good hg hall (by simpa using g1) ha (by omega) (q := H + q) (by omega) hroom
  have hn := hc.anew (H + q)
  have hheld : heldL (T ++ ((if H + q = 0 then [] else [(⟨a, (k : Int), H + q⟩ : Lc)]) ++ D)) a k = H + q := by
    rw [hn.held, midQ_if]
  refine ⟨hg', by rw [hheld, hH], fun b j hne => by rw [hn.other hne, hc.other hne], fun m hm => ?_, ?_, by omega, by omega⟩
  · by_cases hmk : m = k
    · subst hmk
      rw [if_pos rfl, List.getD_eq_getElem?_getD, List.getElem?_set_self hkl, ← hV]; rfl
    · rw [if_neg (by omega), List.getD_eq_getElem?_getD, List.getElem?_set_ne (by omega), ← List.getD_eq_getElem?_getD]
  · unfold reserveS
    rw [hheld]
    have eV : (av.set k (V - q)).getD k 0 = V - q := by
      rw [List.getD_eq_getElem?_getD, List.getElem?_set_self hkl]; rfl
    rw [Int.toNat_natCast, eV, List.length_set]
    rw [if_neg (by omega), if_neg (by omega), if_neg (by omega), if_neg (by omega)]
    have c5' : ¬ (thereB (T ++ ((if H + q = 0 then [] else [(⟨a, (k : Int), H + q⟩ : Lc)]) ++ D)) ⟨a, k, 0⟩ = false ∧ H + q + -q ≠ 0 ∧ 32 ≤ (T ++ ((if H + q = 0 then [] else [(⟨a, (k : Int), H + q⟩ : Lc)]) ++ D)).length) := by
      rintro ⟨t1, t2, t3⟩
      rw [hn.place.2] at t1
      by_cases h0 : H + q = 0
      · rw [if_pos h0] at t3
        rcases hM with ⟨m1, m2⟩ | ⟨r, m1, m2, m3, m4⟩
        · omega
        · rw [m1] at hlenl
          simp at hlenl t3
          omega
      · rw [if_neg h0] at t1
        simp at t1
    rw [if_neg c5', hn.put]
    have e1 : H + q + -q = H := by omega
    rw [e1]
    have e2 : (if H = 0 then [] else [(⟨a, (k : Int), H⟩ : Lc)]) = M := by
      rcases hM with ⟨m1, m2⟩ | ⟨r, m1, m2, m3, m4⟩
      · rw [if_pos (by omega), m1]
      · rw [if_neg (by omega), m1, hHM, m2]
    have e3 : (av.set k (V - q)).set k (V - q - -q) = av := by
      rw [List.set_set, show V - q - -q = V by omega, hV, getD_lt hkl, List.set_getElem_self]
    rw [e3]
    show (av, T ++ ((if H = 0 then [] else [(⟨a, (k : Int), H⟩ : Lc)]) ++ D), (0 : Int)) = (av, l, 0)
    rw [e2, ← hc.eq]

end Go.Proofs.Ytboehkcpgmpjjaa
