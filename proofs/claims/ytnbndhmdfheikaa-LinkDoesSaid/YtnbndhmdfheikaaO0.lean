/- Plain laws for SessOnce: two ends, what is under way to each, what counted at each. -/
import Derived.Test.YtnbndhmdfheikaaM0
namespace Go.Proofs.Ytnbndhmdfheikaa
open Go.RowKit

/-- A frame that an end with the messages ss could have sent when t messages had counted there. -/
def FrOk (ss : List ByteArray) (t : Nat) (f : Fr) : Prop := validB f = true ∧ f.taken ≤ t ∧ (f.kind = 1 → ss[f.num.toNat - 1]? = some f.body)

/-- An end (xs: the end, xu: what is under way to it, xg: what counted at it) against the other one. -/
structure Half (xs : Sd) (xu : List Fr) (xg : List ByteArray) (ys : Sd) (yg : List ByteArray) : Prop where
  good : goodB xs = true
  tk : xs.taken = xg.length
  pre : xg <+: ys.sent
  kn : ys.known ≤ xg.length
  fr : ∀ f ∈ xu, FrOk ys.sent yg.length f

theorem FrOk.mono {ss ss' : List ByteArray} {t t' : Nat} {f : Fr} (h : FrOk ss t f) (h1 : ss <+: ss') (h2 : t ≤ t') : FrOk ss' t' f := by
  obtain ⟨a, b, c⟩ := h
  refine ⟨a, by omega, fun hk => ?_⟩
  have := c hk
  obtain ⟨r, rfl⟩ := h1
  rw [List.getElem?_append_left ?_]
  · exact this
  · exact (List.getElem?_eq_some_iff.1 this).1

theorem half_start : Half ⟨[], 0, 0⟩ [] [] ⟨[], 0, 0⟩ [] := ⟨by decide, rfl, List.nil_prefix, Int.le_refl _, by simp⟩

variable {xs ys s' : Sd} {xu yu : List Fr} {xg yg : List ByteArray} {m : ByteArray} {f : Fr}

theorem send_step (hx : Half xs xu xg ys yg) (hy : Half ys yu yg xs xg) (h : sendS xs m = ⟨s', f, 0⟩) : Half s' xu xg ys yg ∧ Half ys (yu ++ [f]) yg s' xg := by
  have hs := send_stays (m := m) hx.good (by rw [h])
  rw [h] at hs
  unfold sendS at h
  rw [if_neg (by simp [hx.good])] at h
  by_cases hf : fitsB m = false
  · rw [if_pos hf] at h; cases h
  · rw [if_neg hf] at h
    by_cases hl : xs.sent.length = 256
    · rw [if_pos hl] at h; cases h
    · rw [if_neg hl] at h
      simp only [SendR.mk.injEq] at h
      obtain ⟨rfl, rfl, _⟩ := h
      refine ⟨⟨hs.1, hx.tk, hx.pre, hx.kn, hx.fr⟩, ⟨hy.good, hy.tk, hy.pre.trans (List.prefix_append _ _), hy.kn, fun g hg => ?_⟩⟩
      rcases List.mem_append.1 hg with hg | hg
      · exact (hy.fr g hg).mono (List.prefix_append _ _) (Nat.le_refl _)
      · obtain rfl : g = _ := by simpa using hg
        refine ⟨hs.2, by simp [hx.tk], fun _ => ?_⟩
        simp

theorem tick_step (hx : Half xs xu xg ys yg) (hy : Half ys yu yg xs xg) : Half ys (yu ++ [⟨3, xs.sent.length, xs.taken, noBytes⟩]) yg xs xg := by
  refine ⟨hy.good, hy.tk, hy.pre, hy.kn, fun g hg => ?_⟩
  rcases List.mem_append.1 hg with hg | hg
  · exact hy.fr g hg
  · obtain rfl : g = _ := by simpa using hg
    exact ⟨tick_stays hx.good, by simp [hx.tk], fun h => by cases h⟩

theorem lose_step {xu' : List Fr} (hx : Half xs xu xg ys yg) (hsub : ∀ f ∈ xu', f ∈ xu) : Half xs xu' xg ys yg :=
  ⟨hx.good, hx.tk, hx.pre, hx.kn, fun g hg => hx.fr g (hsub g hg)⟩

/-- What the frames of the answer are. -/
theorem again_ok {s : Sd} (hg : goodB s = true) {q : Int} (h1 : 1 ≤ q) (h2 : q ≤ 1099511627776) {t : Nat} (ht : s.taken ≤ t) : ∀ y ∈ s.again q, FrOk s.sent t y := by
  intro y hy
  refine ⟨again_valid hg h1 h2 y hy, ?_⟩
  simp only [Sd.again, List.mem_map, List.mem_range] at hy
  obtain ⟨i, hi, rfl⟩ := hy
  refine ⟨ht, fun _ => ?_⟩
  have hlt : (q + (i : Int)).toNat - 1 < s.sent.length := by omega
  simp [Sd.data, Sd.msg, List.getElem?_eq_getElem hlt]

theorem take_step (hx : Half xs xu xg ys yg) (hy : Half ys yu yg xs xg) (hf : f ∈ xu) :
    (takeS xs f).e = 0 ∧ (takeS xs f).l.length ≤ 64 ∧ (((takeS xs f).m = noBytes ∧ Half (takeS xs f).s xu xg ys yg ∧ Half ys (yu ++ (takeS xs f).l) yg (takeS xs f).s xg) ∨
      (1 ≤ (takeS xs f).m.size ∧ Half (takeS xs f).s xu (xg ++ [(takeS xs f).m]) ys yg ∧ Half ys (yu ++ (takeS xs f).l) yg (takeS xs f).s (xg ++ [(takeS xs f).m]))) := by
  obtain ⟨hv, hft, hfb⟩ := hx.fr f hf
  obtain ⟨v1, v2, v3, v4, v5⟩ := valid_parts hv
  obtain ⟨g1, g2, g3, g4, g5, g6⟩ := good_parts hx.good
  have hk := knows_good hx.good v3
  have hkn : ((xs.knows f.taken).known : Int) ≤ yg.length := by
    unfold Sd.knows
    split
    · exact hft
    · exact hy.kn
  have hks : (xs.knows f.taken).sent = xs.sent := rfl
  have hkt : (xs.knows f.taken).taken = xs.taken := rfl
  unfold takeS
  rw [if_neg (by simp [hx.good]), if_neg (by simp [hv])]
  have half1 : Half (xs.knows f.taken) xu xg ys yg := ⟨hk.1, by rw [hkt]; exact hx.tk, hx.pre, hx.kn, hx.fr⟩
  have half2 : ∀ l, (∀ y ∈ l, FrOk xs.sent xg.length y) → Half ys (yu ++ l) yg (xs.knows f.taken) xg := fun l hl => by
    refine ⟨hy.good, hy.tk, hy.pre, hkn, fun g hg => ?_⟩
    rcases List.mem_append.1 hg with hg | hg
    · exact hy.fr g hg
    · exact hl g hg
  by_cases hd : f.kind = 1 ∧ f.num = xs.taken + 1
  · rw [if_pos hd]
    have hbody := hfb hd.1
    have hnum : f.num.toNat - 1 = xg.length := by have := hx.tk; omega
    rw [hnum] at hbody
    have hfit : fitsB f.body = true := by
      rcases v5 with h | h | h
      · exact h.2.2
      · have := hd.1; omega
      · have := hd.1; omega
    refine ⟨rfl, by simp, .inr ⟨(fits_size hfit).1, ?_, ?_⟩⟩
    · refine ⟨good_mk g1 (good_parts hk.1).2.1 (good_parts hk.1).2.2.1 (by dsimp only; omega) (by dsimp only; omega) g6, by simp [hx.tk], ?_, by have := hx.kn; simp; omega, fun g hg => hx.fr g hg⟩
      obtain ⟨r, hr⟩ := hx.pre
      rw [← hr] at hbody ⊢
      rw [List.getElem?_append_right (Nat.le_refl _), Nat.sub_self] at hbody
      rcases r with _ | ⟨b, r⟩
      · cases hbody
      · simp only [List.getElem?_cons_zero, Option.some.injEq] at hbody
        subst hbody
        exact ⟨r, by simp⟩
    · refine ⟨hy.good, hy.tk, hy.pre, hkn, fun g hg => ?_⟩
      simp only [List.append_nil] at hg
      exact (hy.fr g hg).mono (List.prefix_refl _) (by simp)
  · rw [if_neg hd]
    by_cases h2 : f.kind = 2
    · rw [if_pos h2]
      have hn1 : 1 ≤ f.num := by
        rcases v5 with h | h | h <;> omega
      refine ⟨rfl, again_len _ _, .inl ⟨rfl, half1, half2 _ ?_⟩⟩
      have ha := again_ok hk.1 hn1 v2 (t := xg.length) (by rw [hkt]; have := hx.tk; omega)
      exact ha
    · rw [if_neg h2]
      by_cases hlt : xs.taken < f.num
      · rw [if_pos hlt]
        refine ⟨rfl, by simp, .inl ⟨rfl, half1, half2 _ fun y hy' => ?_⟩⟩
        obtain rfl : y = _ := by simpa using hy'
        refine ⟨?_, by have := hx.tk; dsimp only; omega, fun h => by cases h⟩
        rw [valid_on _ _ _ _ ⟨by omega, by omega, g4, g5⟩, if_neg (by decide)]
        simp [noBytes, ByteArray.size]
        omega
      · rw [if_neg hlt]
        exact ⟨rfl, by simp, .inl ⟨rfl, half1, half2 _ (by simp)⟩⟩

end Go.Proofs.Ytnbndhmdfheikaa
