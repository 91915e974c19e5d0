/- Plain: what Put, Drop and Cut keep, and that they undo one another. -/
import Derived.Test.YtiapbgbbeakoiaaOS
import Derived.Test.YtiapbgbbeakoiaaOX
namespace Go.Proofs.Ytiapbgbbeakoiaa.O
open Go.RowKit

section
variable {l T M D : List Lc} {a i : Int}
theorem About.find0 (h : About l a i T [] D) (hs : Sorted l) : findL l a i = -1 := by rw [findL_sorted hs, h.place.2]; rfl
theorem About.find1 {x : Lc} (h : About l a i T [x] D) (hs : Sorted l) : findL l a i = (T.length : Int) := by rw [findL_sorted hs, h.place.1, h.place.2]; rfl
theorem About.put0 {x : Lc} (h : About l x.acct x.id T [] D) : putL l x = if 32 ≤ l.length then ([], 40) else (T ++ ([x] ++ D), 0) := by
  obtain ⟨h1, h2⟩ := place_same (l := l) (x := x) (y := ⟨x.acct, x.id, 0, 0, 0⟩) rfl rfl
  unfold putL
  rw [h1, h2, h.place.1, h.place.2, h.take, h.drop0]
  rfl
theorem About.put1 {x y : Lc} (h : About l x.acct x.id T [y] D) : putL l x = ([], 35) := by
  obtain ⟨h1, h2⟩ := place_same (l := l) (x := x) (y := ⟨x.acct, x.id, 0, 0, 0⟩) rfl rfl
  unfold putL
  rw [h2, h.place.2]
  rfl
theorem About.dropped {x : Lc} (h : About l a i T [x] D) : dropL l a i = (T ++ ([] ++ D), 0) := by
  unfold dropL
  rw [h.place.1, h.place.2, h.take, h.drop1]
  rfl
theorem About.cut1 {x : Lc} (h : About l a i T [x] D) (q : Int) : cutL l a i q = if q < 1 ∨ absI x.qty < q then ([], 0, 36) else if absI x.qty = q then (T ++ ([] ++ D), 0, 0) else
    (T ++ ([{ x with qty := if x.qty < 0 then x.qty + q else x.qty - q }] ++ D), absI x.qty - q, 0) := by
  unfold cutL
  rw [h.place.1, h.place.2, h.take, h.drop1, h.at1, h.set1]
  rfl
end

/-- What Put leaves, and how it is undone. -/
structure Filled (l : List Lc) (o : Lc) (a : List Lc) : Prop where
  good : goodB 16 12 a = true
  find : 0 ≤ findL a o.acct o.id
  drop : dropL a o.acct o.id = (l, 0)
  whole : cutL a o.acct o.id (absI o.qty) = (l, 0, 0)
  part : ∀ q, 1 ≤ q → q < absI o.qty → ∃ c, cutL a o.acct o.id q = (c, absI o.qty - q, 0) ∧ goodB 16 12 c = true ∧ cutL c o.acct o.id (absI o.qty - q) = (l, 0, 0)

theorem filled {l : List Lc} {o : Lc} (hg : goodB 16 12 l = true) (ho : okB 16 12 o = true) {a : List Lc} (h : putL l o = (a, 0)) : Filled l o a := by
  have hs := good_sorted hg
  obtain ⟨T, M, D, hc⟩ := about_of hs o.acct o.id
  have hok := of_decide_eq_true ho
  rcases hc.mid with rfl | ⟨x, rfl, e1, e2⟩
  · rw [hc.put0] at h
    split at h
    · cases h
    rename_i h32
    cases h
    have hlen := hc.len
    have hm : ([o] : List Lc) = [] ∨ ∃ x : Lc, ([o] : List Lc) = [x] ∧ x.acct = o.acct ∧ x.id = o.id := .inr ⟨o, rfl, rfl, rfl⟩
    have hn := hc.anew hm
    have hroom : (T ++ ([o] ++ D)).length ≤ 32 := by simp at hlen ⊢; omega
    have hg' := hc.good hg hm (fun y hy => by rw [List.mem_singleton.1 hy]; exact ho) hroom
    have ha : (o.qty < 0 → absI o.qty = -o.qty) ∧ (¬ o.qty < 0 → absI o.qty = o.qty) := by unfold absI; exact ⟨fun h => if_pos h, fun h => if_neg h⟩
    have ha0 : 1 ≤ absI o.qty := by
      by_cases h0 : o.qty < 0
      · have := ha.1 h0; omega
      · have := ha.2 h0; omega
    refine ⟨hg', ?_, ?_, ?_, fun q h1 h2 => ?_⟩
    · rw [hn.find1 (good_sorted hg')]
      omega
    · rw [hn.dropped, ← hc.eq]
    · rw [hn.cut1, if_neg (by omega), if_pos rfl, ← hc.eq]
    · have hm2 : ([{ o with qty := if o.qty < 0 then o.qty + q else o.qty - q }] : List Lc) = [] ∨ ∃ x : Lc, ([{ o with qty := if o.qty < 0 then o.qty + q else o.qty - q }] : List Lc) = [x] ∧ x.acct = o.acct ∧ x.id = o.id := .inr ⟨_, rfl, rfl, rfl⟩
      have hn2 := hc.anew hm2
      obtain ⟨y, hy⟩ : ∃ y, y = if o.qty < 0 then o.qty + q else o.qty - q := ⟨_, rfl⟩
      have hy' : (o.qty < 0 → y = o.qty + q) ∧ (¬ o.qty < 0 → y = o.qty - q) := by rw [hy]; exact ⟨fun h => if_pos h, fun h => if_neg h⟩
      refine ⟨T ++ ([{ o with qty := if o.qty < 0 then o.qty + q else o.qty - q }] ++ D), ?_, ?_, ?_⟩
      · rw [hn.cut1, if_neg (by omega), if_neg (by omega)]
      · refine hc.good hg hm2 (fun z hz => ?_) (by simp at hlen ⊢; omega)
        rw [List.mem_singleton.1 hz, ← hy]
        refine decide_eq_true ?_
        dsimp only
        by_cases h0 : o.qty < 0
        · have := ha.1 h0; have := hy'.1 h0; omega
        · have := ha.2 h0; have := hy'.2 h0; omega
      · rw [hn2.cut1, ← hy]
        dsimp only
        have hay : absI y = absI o.qty - q := by
          unfold absI at *
          by_cases h0 : o.qty < 0
          · have := hy'.1 h0
            rw [if_pos h0] at h2 ⊢
            rw [if_pos (by omega)]
            omega
          · have := hy'.2 h0
            rw [if_neg h0] at h2 ⊢
            rw [if_neg (by omega)]
            omega
        rw [if_neg (by omega), if_pos hay, ← hc.eq]
  · rw [hc.put1] at h
    cases h

theorem put_err {l : List Lc} {o : Lc} (hs : Sorted l) {a : List Lc} {e : Int} (h : putL l o = (a, e)) (he : e ≠ 0) : a = [] ∧ ((e = 35 ∧ 0 ≤ findL l o.acct o.id) ∨ (e = 40 ∧ ¬ 0 ≤ findL l o.acct o.id)) := by
  obtain ⟨T, M, D, hc⟩ := about_of hs o.acct o.id
  rcases hc.mid with rfl | ⟨x, rfl, e1, e2⟩
  · rw [hc.put0] at h
    split at h
    · cases h
      exact ⟨rfl, .inr ⟨rfl, by rw [hc.find0 hs]; omega⟩⟩
    · cases h
      exact absurd rfl he
  · rw [hc.put1] at h
    cases h
    exact ⟨rfl, .inl ⟨rfl, by rw [hc.find1 hs]; omega⟩⟩

end Go.Proofs.Ytiapbgbbeakoiaa.O
