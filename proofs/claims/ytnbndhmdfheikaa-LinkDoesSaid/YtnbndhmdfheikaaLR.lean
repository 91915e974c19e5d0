/- Plain laws of the link: what a Round mends. -/
import Derived.Test.YtnbndhmdfheikaaLN
namespace Go.Proofs.Ytnbndhmdfheikaa
open Go.RowKit

/-- That so many will have counted at end k. -/
def Prom (st : Lk) (k j : Nat) (P : Int) : Prop :=
  P ≤ reach (st.e k).taken (st.u k) ∨ (∃ q ∈ st.u j, q.kind = 2 ∧ P ≤ q.num + 63 ∧ P ≤ (st.e j).sent.length) ∨ (∃ b ∈ st.u k, b.kind = 3 ∧ P ≤ b.num ∧ P ≤ (st.e j).sent.length ∧ P ≤ (st.e k).taken + 64)
/-- That end k will know it. -/
def Know (st : Lk) (k : Nat) : Prop := (st.e k).known = (st.e k).sent.length ∨ ∃ f ∈ st.u k, f.taken = (st.e k).sent.length

section
variable {k j : Nat} {st st' : Lk} {f : Fr} {v : List Fr} {P : Int}
theorem take_len {s : Sd} {f : Fr} (hg : goodB s = true) (hv : validB f = true) : (takeS s f).l.length ≤ 64 := by
  rcases (took_of hg hv).1 with ⟨_, _, _, hl⟩ | ⟨_, _, hl⟩ | ⟨_, _, _, _, hl⟩ | ⟨_, _, _, hl⟩
  · rw [hl]; exact Nat.zero_le _
  · rcases hl with hl | ⟨s', _, hl⟩ <;> rw [hl] <;> exact again_len _ _
  · rw [hl]; exact Nat.succ_le_succ (Nat.zero_le _)
  · rw [hl]; exact Nat.zero_le _

/-- At the end where the frame comes. -/
theorem Pop.prom (h : Pop k j f v st st') (hroom : (st.u j).length ≤ 1000) (hp : Prom st k j P) : Prom st' k j P := by
  have htk := h.taken
  have t := (took_of h.good h.valid).1
  have hl64 := take_len h.good h.valid
  have hu : st'.u j = st.u j ++ (takeS (st.e k) f).l := by rw [h.uj, putU_room (by omega)]
  have hek := h.ek
  rcases hp with hp | ⟨q, hq, h1, h2, h3⟩ | ⟨b, hb, h1, h2, h3, h4⟩
  · left
    rw [h.was, reach] at hp
    rw [h.uk]
    by_cases hd : f.kind = 1 ∧ f.num = (st.e k).taken + 1
    · rw [if_pos hd] at hp
      have e : (st'.e k).taken = (st.e k).taken + 1 := by
        rw [hek]
        rcases t with ⟨_, _, ht, _⟩ | ⟨h2, _, _⟩ | ⟨_, _, h4, _, _⟩ | ⟨_, h3, _, _⟩
        · exact ht
        · omega
        · exact absurd hd h4
        · omega
      rw [e]
      exact hp
    · rw [if_neg hd] at hp
      have e : (st'.e k).taken = (st.e k).taken := by
        rw [hek]
        rcases t with ⟨a, b, _, _⟩ | ⟨_, ht, _⟩ | ⟨_, _, _, ht, _⟩ | ⟨_, _, ht, _⟩
        · exact absurd ⟨a, b⟩ hd
        · exact ht
        · exact ht
        · exact ht
      rw [e]
      exact hp
  · exact .inr (.inl ⟨q, h.grows q hq, h1, h2, by rw [h.ej]; exact h3⟩)
  · rw [h.was] at hb
    rcases List.mem_cons.1 hb with rfl | hb
    · rcases t with ⟨a, _, _, _⟩ | ⟨a, _, _⟩ | ⟨_, a, _, _, hl⟩ | ⟨_, a, ht, _⟩
      · omega
      · omega
      · refine .inr (.inl ⟨⟨2, (st.e k).taken + 1, (st.e k).taken, noBytes⟩, by rw [hu, hl]; simp, rfl, ?_, by rw [h.ej]; exact h3⟩)
        dsimp only
        omega
      · left
        have := reach_ge (v := st'.u k) (T := (st'.e k).taken)
        omega
    · exact .inr (.inr ⟨b, by rw [h.uk]; exact hb, h1, h2, by rw [h.ej]; exact h3, by omega⟩)

/-- At the other end. -/
theorem Pop.prom' (h : Pop k j f v st st') (hroom : (st.u j).length ≤ 1000) (hp : Prom st j k P) : Prom st' j k P := by
  have t := (took_of h.good h.valid).1
  have hl64 := take_len h.good h.valid
  have hu : st'.u j = st.u j ++ (takeS (st.e k) f).l := by rw [h.uj, putU_room (by omega)]
  rcases hp with hp | ⟨q, hq, h1, h2, h3⟩ | ⟨b, hb, h1, h2, h3, h4⟩
  · left
    rw [hu, h.ej, reach_append]
    exact Int.le_trans hp reach_ge
  · rw [h.was] at hq
    rcases List.mem_cons.1 hq with rfl | hq
    · rcases t with ⟨a, _, _, _⟩ | ⟨_, _, hl⟩ | ⟨a, _, _, _, _⟩ | ⟨a, _, _, _⟩
      · omega
      · left
        obtain ⟨s', hs⟩ := asks_len hl
        have hask := h.ask h1
        rw [hu, h.ej, reach_append, hs]
        have hge := reach_ge (v := st.u j) (T := (st.e j).taken)
        have := reach_series (s := s') (m := min 64 ((st.e k).sent.length + 1 - q.num.toNat)) (q := q.num) (T := reach (st.e j).taken (st.u j)) (by omega)
        have hv := (valid_parts h.valid).1
        by_cases hbig : (st.e k).sent.length + 1 < q.num.toNat
        · omega
        · omega
      · exact absurd h1 a
      · exact absurd h1 a
    · exact .inr (.inl ⟨q, by rw [h.uk]; exact hq, h1, h2, by rw [h.sent]; exact h3⟩)
  · exact .inr (.inr ⟨b, h.grows b hb, h1, h2, by rw [h.sent]; exact h3, by rw [h.ej]; exact h4⟩)

theorem Pop.know (h : Pop k j f v st st') (hp : Know st k) : Know st' k := by
  obtain ⟨g1, g2, g3, g4, g5, g6⟩ := good_parts h.good
  obtain ⟨-, hs, hkn⟩ := took_of h.good h.valid
  unfold Know
  rw [h.ek, hs, hkn]
  unfold Sd.knows
  dsimp only
  rcases hp with hp | ⟨g, hg, hp⟩
  · left
    rw [if_neg (by omega)]
    exact hp
  · rw [h.was] at hg
    rcases List.mem_cons.1 hg with rfl | hg
    · left
      split <;> omega
    · exact .inr ⟨g, by rw [h.uk]; exact hg, hp⟩
theorem Pop.know' (h : Pop k j f v st st') (hp : Know st j) : Know st' j := by
  unfold Know
  rw [h.ej]
  rcases hp with hp | ⟨g, hg, hp⟩
  · exact .inl hp
  · exact .inr ⟨g, h.grows g hg, hp⟩
end

def FU : Nat := 600000

/-- What the first 'all' of a Round keeps. -/
structure Keeps (x st : Lk) : Prop where
  s0 : (st.e 0).sent = (x.e 0).sent
  s1 : (st.e 1).sent = (x.e 1).sent
  t0 : (x.e 0).taken ≤ (st.e 0).taken
  t1 : (x.e 1).taken ≤ (st.e 1).taken
theorem Keeps.refl (x : Lk) : Keeps x x := ⟨rfl, rfl, Int.le_refl _, Int.le_refl _⟩
theorem Keeps.pop {x st st' : Lk} {k j : Nat} {f : Fr} {v : List Fr} (hkj : k = 0 ∧ j = 1 ∨ k = 1 ∧ j = 0) (h : Pop k j f v st st') (hp : Keeps x st) : Keeps x st' := by
  rcases hkj with ⟨rfl, rfl⟩ | ⟨rfl, rfl⟩
  · exact ⟨h.sent.trans hp.s0, by rw [h.ej]; exact hp.s1, Int.le_trans hp.t0 h.taken, by rw [h.ej]; exact hp.t1⟩
  · exact ⟨by rw [h.ej]; exact hp.s0, h.sent.trans hp.s1, by rw [h.ej]; exact hp.t0, Int.le_trans hp.t1 h.taken⟩

/-- Behind a Round. -/
structure Mended (x st : Lk) : Prop where
  inv : Inv st
  u0 : st.u 0 = []
  u1 : st.u 1 = []
  s0 : (st.e 0).sent = (x.e 0).sent
  s1 : (st.e 1).sent = (x.e 1).sent
  g0 : min (x.e 1).sent.length ((x.g 0).length + 64) ≤ (st.g 0).length
  g1 : min (x.e 0).sent.length ((x.g 1).length + 64) ≤ (st.g 1).length
  k0 : (x.g 1).length = (x.e 0).sent.length → (st.e 0).known = (st.e 0).sent.length
  k1 : (x.g 0).length = (x.e 1).sent.length → (st.e 1).known = (st.e 1).sent.length

structure Second (X st : Lk) : Prop where
  kp : Keeps X st
  p0 : Prom st 0 1 (min (X.e 1).sent.length ((X.e 0).taken + 64))
  p1 : Prom st 1 0 (min (X.e 0).sent.length ((X.e 1).taken + 64))
  k0 : (X.e 1).taken = (X.e 0).sent.length → Know st 0
  k1 : (X.e 0).taken = (X.e 1).sent.length → Know st 1

theorem setU_same (st : Lk) (k : Nat) (l : List Fr) : (st.setU k l).u k = l := upd_same _ _ _
theorem setU_other (st : Lk) {k j : Nat} (l : List Fr) (h : j ≠ k) : (st.setU k l).u j = st.u j := upd_other _ _ h
theorem tick_eq {st : Lk} {k j : Nat} (hkj : 1 - k = j) (hg : goodB (st.e k) = true) (hu : st.u j = []) : (tickK st k).1 = st.setU j [tickF (st.e k)] := by
  unfold tickK
  rw [if_pos hg, hkj, hu]
  rfl

theorem second_ends {X : Lk} (hi : Inv X) (h0 : X.u 0 = [tickF (X.e 1)]) (h1 : X.u 1 = [tickF (X.e 0)]) {n : Nat} (hn : 132 < n) : ∃ st9, allS n X = some st9 ∧ Inv st9 ∧ Second X st9 ∧ st9.u 0 = [] ∧ st9.u 1 = [] := by
  have hm0 := Mea.all X 0
  have hm1 := Mea.all X 1
  rw [h0] at hm0
  rw [h1] at hm1
  refine all_ends (Second X) 132 ?_ n X _ _ hi ?_ hm0 hm1 (by simp; omega) (by simp)
  · intro st st' k j f v hkj _ hlen hpop hs
    rcases hkj with ⟨rfl, rfl⟩ | ⟨rfl, rfl⟩
    · exact ⟨hs.kp.pop (.inl ⟨rfl, rfl⟩) hpop, hpop.prom (by omega) hs.p0, hpop.prom' (by omega) hs.p1, fun h => hpop.know (hs.k0 h), fun h => hpop.know' (hs.k1 h)⟩
    · exact ⟨hs.kp.pop (.inr ⟨rfl, rfl⟩) hpop, hpop.prom' (by omega) hs.p0, hpop.prom (by omega) hs.p1, fun h => hpop.know' (hs.k0 h), fun h => hpop.know (hs.k1 h)⟩
  · refine ⟨Keeps.refl X, .inr (.inr ⟨_, by rw [h0]; exact List.mem_singleton.2 rfl, rfl, ?_, ?_, ?_⟩), .inr (.inr ⟨_, by rw [h1]; exact List.mem_singleton.2 rfl, rfl, ?_, ?_, ?_⟩),
      fun h => .inr ⟨_, by rw [h0]; exact List.mem_singleton.2 rfl, h⟩, fun h => .inr ⟨_, by rw [h1]; exact List.mem_singleton.2 rfl, h⟩⟩
    all_goals first | (show min _ _ ≤ ((X.e 1).sent.length : Int); omega) | (show min _ _ ≤ ((X.e 0).sent.length : Int); omega) | omega

theorem round_ends {x : Lk} (hi : Inv x) : ∃ st9, roundS FU x = some st9 ∧ Mended x st9 := by
  obtain ⟨y, hy, iy, ky, uy0, uy1⟩ := all_ends (Keeps x) (66 * 4096 + 66 * 4096) (fun st st' k j f v hkj _ _ hpop hs => hs.pop hkj hpop) FU x _ _ hi (Keeps.refl x) (Mea.all x 0) (Mea.all x 1)
    (by have := hi.fits.u0; have := hi.fits.u1; unfold FU; omega) (by have := hi.fits.u0; have := hi.fits.u1; omega)
  obtain ⟨X, hX⟩ : ∃ X, X = (tickK (tickK y 0).1 1).1 := ⟨_, rfl⟩
  have iX : Inv X := by rw [hX]; exact (iy.tick 0 (.inl rfl)).tick 1 (.inr rfl)
  have e1 := tick_eq (st := y) (k := 0) (j := 1) rfl iy.1.half.good uy1
  have e2 : X = (y.setU 1 [tickF (y.e 0)]).setU 0 [tickF (y.e 1)] := by
    rw [hX, e1]
    exact tick_eq (st := y.setU 1 [tickF (y.e 0)]) (k := 1) (j := 0) rfl iy.2.half.good ((setU_other y _ (by decide)).trans uy0)
  have xe : X.e = y.e := by rw [e2]; rfl
  have xg : X.g = y.g := by rw [e2]; rfl
  have xu0 : X.u 0 = [tickF (X.e 1)] := by rw [xe, e2]; exact setU_same _ _ _
  have xu1 : X.u 1 = [tickF (X.e 0)] := by rw [xe, e2]; exact (setU_other _ _ (by decide)).trans (setU_same _ _ _)
  obtain ⟨st9, h9, i9, s9, u0, u1⟩ := second_ends iX xu0 xu1 (n := FU) (by unfold FU; omega)
  refine ⟨st9, ?_, i9, u0, u1, ?_, ?_, ?_, ?_, ?_, ?_⟩
  · unfold roundS
    rw [hy]
    show allS FU (tickK (tickK y 0).1 1).1 = _
    rw [← hX]
    exact h9
  · rw [s9.kp.s0, xe, ky.s0]
  · rw [s9.kp.s1, xe, ky.s1]
  · have h := s9.p0
    unfold Prom at h
    rw [u0, u1] at h
    rcases h with h | ⟨_, h, _⟩ | ⟨_, h, _⟩
    · have a := i9.1.half.tk
      have b := hi.1.half.tk
      have c := ky.t0
      rw [xe, ky.s1] at h
      simp only [reach] at h
      omega
    · cases h
    · cases h
  · have h := s9.p1
    unfold Prom at h
    rw [u0, u1] at h
    rcases h with h | ⟨_, h, _⟩ | ⟨_, h, _⟩
    · have a := i9.2.half.tk
      have b := hi.2.half.tk
      have c := ky.t1
      rw [xe, ky.s0] at h
      simp only [reach] at h
      omega
    · cases h
    · cases h
  · intro h
    have hk := s9.k0 (by
      rw [xe, ky.s0]
      have a := hi.2.half.tk
      have b := iy.2.half.tk
      have c := ky.t1
      have d := iy.2.half.pre.length_le
      rw [ky.s0] at d
      omega)
    unfold Know at hk
    rw [u0] at hk
    rcases hk with hk | ⟨_, hk, _⟩
    · exact hk
    · cases hk
  · intro h
    have hk := s9.k1 (by
      rw [xe, ky.s1]
      have a := hi.1.half.tk
      have b := iy.1.half.tk
      have c := ky.t0
      have d := iy.1.half.pre.length_le
      rw [ky.s1] at d
      omega)
    unfold Know at hk
    rw [u1] at hk
    rcases hk with hk | ⟨_, hk, _⟩
    · exact hk
    · cases hk

end Go.Proofs.Ytnbndhmdfheikaa
