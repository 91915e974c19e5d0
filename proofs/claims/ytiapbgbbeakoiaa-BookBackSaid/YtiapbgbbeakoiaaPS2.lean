/- Plain: what Add keeps, and that it is undone. -/
import Derived.Test.YtiapbgbbeakoiaaPS
import Derived.Test.YtiapbgbbeakoiaaPV
namespace Go.Proofs.Ytiapbgbbeakoiaa.P
open Go.RowKit

section
variable {l T M D : List Lc} {a i : Int}
theorem About.find (h : About l a i T M D) : l.find? (fun x => x.is a i) = M.head? := by
  obtain ⟨n1, n2⟩ := h.no
  have f1 : T.find? (fun x => x.is a i) = none := List.find?_eq_none.2 fun y hy => by simp [n1 y hy]
  have f2 : D.find? (fun x => x.is a i) = none := List.find?_eq_none.2 fun y hy => by simp [n2 y hy]
  rw [h.eq, List.find?_append, f1, List.find?_append, f2]
  rcases h.mid with rfl | ⟨x, rfl, e1, e2⟩
  · rfl
  · have := (is_iff x a i).2 ⟨e1, e2⟩
    simp [this]
theorem About.qty0 (h : About l a i T [] D) : qtyL l a i = 0 := by unfold qtyL; rw [h.find]; rfl
theorem About.qty1 {x : Lc} (h : About l a i T [x] D) : qtyL l a i = x.qty := by unfold qtyL; rw [h.find]; rfl
theorem About.other (h : About l a i T M D) {b j : Int} (hne : ¬ (b = a ∧ j = i)) : qtyL l b j = qtyL (T ++ D) b j := by
  have fm : M.find? (fun x => x.is b j) = none := by
    rcases h.mid with rfl | ⟨x, rfl, e1, e2⟩
    · rfl
    · have : x.is b j = false := (is_false x b j).2 fun hc => hne ⟨by omega, by omega⟩
      simp [this]
  unfold qtyL
  rw [h.eq, List.find?_append, List.find?_append, fm, Option.none_or, ← List.find?_append]
theorem About.add0 (h : About l a i T [] D) (q : Int) : addL l a i q = if q < -1000000000 ∨ 1000000000 < q then ([], 36) else if q = 0 then (l, 0) else if 64 ≤ l.length then ([], 40) else (T ++ ([⟨a, i, q⟩] ++ D), 0) := by
  unfold addL
  rw [h.place.1, h.place.2, h.take, h.drop0]
  rfl
theorem About.add1 {x : Lc} (h : About l a i T [x] D) (q : Int) : addL l a i q = if q < -1000000000 ∨ 1000000000 < q then ([], 36) else if q = 0 then (l, 0) else
    if x.qty + q < -1000000000 ∨ 1000000000 < x.qty + q then ([], 36) else if x.qty + q = 0 then (T ++ ([] ++ D), 0) else (T ++ ([{ x with qty := x.qty + q }] ++ D), 0) := by
  unfold addL
  rw [h.place.1, h.place.2, h.take, h.drop1, h.at1, h.set1]
  rfl
end

theorem addL_bad (l : List Lc) (a i q : Int) : (addL l a i q).2 = 0 ∨ (addL l a i q).1 = [] := by
  unfold addL
  repeat' split
  all_goals first | exact .inl rfl | exact .inr rfl

/-- What Add keeps. -/
structure Kept (l : List Lc) (a i q : Int) (l' : List Lc) : Prop where
  good : goodB 16 12 l' = true
  qty : qtyL l' a i = qtyL l a i + q
  other : ∀ p ∈ l, ¬ (p.acct = a ∧ p.instr = i) → qtyL l' p.acct p.instr = p.qty
  back : addL l' a i (-q) = (l, 0)
  qs : -1000000000 ≤ q ∧ q ≤ 1000000000
  hs : -1000000000 ≤ qtyL l a i ∧ qtyL l a i ≤ 1000000000

theorem kept {l : List Lc} {a i q : Int} (hg : goodB 16 12 l = true) (ha : 2 ≤ a ∧ a ≤ 15) (hi : 0 ≤ i ∧ i ≤ 11) {l' : List Lc} (h : addL l a i q = (l', 0)) : Kept l a i q l' := by
  obtain ⟨g1, g2, g3⟩ := (good_iff 16 12 l).1 hg
  have hs := good_sorted hg
  have hown : ∀ p ∈ l, qtyL l p.acct p.instr = p.qty := fun p hp => by
    obtain ⟨T, D, hc⟩ := about_mem hs hp
    exact hc.qty1
  obtain ⟨T, M, D, hc⟩ := about_of hs a i
  have hoth : ∀ {M' : List Lc}, (M' = [] ∨ ∃ x : Lc, M' = [x] ∧ x.acct = a ∧ x.instr = i) → ∀ p ∈ l, ¬ (p.acct = a ∧ p.instr = i) → qtyL (T ++ (M' ++ D)) p.acct p.instr = p.qty := fun hm p hp hne => by
    rw [(hc.anew hm).other hne, ← hc.other hne, hown p hp]
  rcases hc.mid with rfl | ⟨x, rfl, e1, e2⟩
  · rw [hc.add0] at h
    have hq0 := hc.qty0
    split at h
    · cases h
    split at h
    · rename_i _ hz
      cases h
      subst hz
      exact ⟨hg, by omega, fun p hp _ => hown p hp, by rw [hc.add0]; simp, by omega, by omega⟩
    rename_i hb hz
    split at h
    · cases h
    rename_i h64
    cases h
    have hm : ([⟨a, i, q⟩] : List Lc) = [] ∨ ∃ x : Lc, ([⟨a, i, q⟩] : List Lc) = [x] ∧ x.acct = a ∧ x.instr = i := .inr ⟨_, rfl, rfl, rfl⟩
    have hn := hc.anew hm
    have hlen := hc.len
    refine ⟨hc.good hg hm (fun y hy => ?_) ?_, by rw [hn.qty1, hq0]; exact (Int.zero_add q).symm, hoth hm, ?_, by omega, by omega⟩
    · rw [List.mem_singleton.1 hy]
      exact decide_eq_true (by dsimp only; omega)
    · simp at hlen ⊢
      omega
    · rw [hn.add1]
      dsimp only
      rw [if_neg (by omega), if_neg (by omega), if_neg (by omega), if_pos (by omega), ← hc.eq]
  · rw [hc.add1] at h
    have hqx := hc.qty1
    have hxm : x ∈ l := by rw [hc.eq]; simp
    have hok := of_decide_eq_true (g2 x hxm)
    have hlen := hc.len
    split at h
    · cases h
    split at h
    · rename_i _ hz
      cases h
      subst hz
      exact ⟨hg, by omega, fun p hp _ => hown p hp, by rw [hc.add1]; simp, by omega, by omega⟩
    rename_i hb hz
    split at h
    · cases h
    rename_i hb2
    split at h
    · rename_i hz2
      cases h
      have hm : ([] : List Lc) = [] ∨ ∃ x : Lc, ([] : List Lc) = [x] ∧ x.acct = a ∧ x.instr = i := .inl rfl
      have hn := hc.anew hm
      refine ⟨hc.good hg hm (fun y hy => by cases hy) ?_, by rw [hn.qty0, hqx]; omega, hoth hm, ?_, by omega, by omega⟩
      · simp at hlen ⊢
        omega
      · rw [hn.add0]
        have hxe : (⟨a, i, -q⟩ : Lc) = x := by
          obtain ⟨xa, xi, xq⟩ := x
          dsimp only at e1 e2 hz2
          rw [← e1, ← e2, show -q = xq by omega]
        have hl2 : (T ++ ([] ++ D)).length < 64 := by simp at hlen ⊢; omega
        rw [if_neg (by omega), if_neg (by omega), if_neg (by omega), hxe, ← hc.eq]
    · rename_i hz2
      cases h
      have hm : ([{ x with qty := x.qty + q }] : List Lc) = [] ∨ ∃ y : Lc, ([{ x with qty := x.qty + q }] : List Lc) = [y] ∧ y.acct = a ∧ y.instr = i := .inr ⟨_, rfl, e1, e2⟩
      have hn := hc.anew hm
      refine ⟨hc.good hg hm (fun y hy => ?_) ?_, by rw [hn.qty1, hqx], hoth hm, ?_, by omega, by omega⟩
      · rw [List.mem_singleton.1 hy]
        exact decide_eq_true (by dsimp only; omega)
      · simp at hlen ⊢
        omega
      · rw [hn.add1]
        dsimp only
        have e : x.qty + q + -q = x.qty := by omega
        rw [if_neg (by omega), if_neg (by omega), e, if_neg (by omega), if_neg (by omega), ← hc.eq]

end Go.Proofs.Ytiapbgbbeakoiaa.P
