/- Plain laws of the link: what holds of all its states. -/
import Derived.Test.YtnbndhmdfheikaaO0
import Derived.Test.YtnbndhmdfheikaaLL
namespace Go.Proofs.Ytnbndhmdfheikaa
open Go.RowKit

theorem putU_mem {u fs : List Fr} : ∀ f ∈ putU u fs, f ∈ u ++ fs := by
  induction fs generalizing u with
  | nil => intro f hf; rw [List.append_nil]; exact hf
  | cons a fs ih =>
    intro f hf
    have e : putU u (a :: fs) = putU (if u.length < 4096 then u ++ [a] else u) fs := rfl
    rw [e] at hf
    have h := ih f hf
    by_cases hl : u.length < 4096
    · rw [if_pos hl] at h
      simpa using h
    · rw [if_neg hl] at h
      rcases List.mem_append.1 h with h | h
      · exact List.mem_append_left _ h
      · exact List.mem_append_right _ (List.mem_cons_of_mem _ h)
theorem without_mem {l : List Fr} {p : Nat} : ∀ f ∈ without l p, f ∈ l := fun f hf => by
  rcases List.mem_append.1 hf with h | h
  · exact List.mem_of_mem_take h
  · exact List.mem_of_mem_drop h
theorem without_le (l : List Fr) (p : Nat) : (without l p).length ≤ l.length := by
  unfold without
  rw [List.length_append, List.length_take, List.length_drop]
  omega

/-- All questions on the way ask for what isn't had. -/
def Ask (u : List Fr) (t : Nat) : Prop := ∀ f ∈ u, f.kind = 2 → f.num ≤ t + 1
theorem Ask.mono {u : List Fr} {t t' : Nat} (h : Ask u t) (ht : t ≤ t') : Ask u t' := fun f hf hk => by have := h f hf hk; omega
theorem Ask.sub {u v : List Fr} {t : Nat} (h : Ask u t) (hs : ∀ f ∈ v, f ∈ u) : Ask v t := fun f hf => h f (hs f hf)
theorem Ask.app {u v : List Fr} {t : Nat} (h : Ask u t) (h' : Ask v t) : Ask (u ++ v) t := fun f hf => by
  rcases List.mem_append.1 hf with hf | hf
  · exact h f hf
  · exact h' f hf

structure InvK (st : Lk) (k j : Nat) : Prop where
  half : Half (st.e k) (st.u k) (st.g k) (st.e j) (st.g j)
  u : (st.u k).length ≤ 4096
  ask : Ask (st.u k) (st.g j).length
/-- What holds of all states. -/
def Inv (st : Lk) : Prop := InvK st 0 1 ∧ InvK st 1 0

theorem Inv.start : Inv st0 := ⟨⟨half_start, Nat.zero_le _, fun _ h => by cases h⟩, ⟨half_start, Nat.zero_le _, fun _ h => by cases h⟩⟩

theorem InvK.sent {st : Lk} {k j : Nat} (h : InvK st k j) : (st.e k).sent.length ≤ 256 := (good_parts h.half.good).1
theorem InvK.got {st : Lk} {k j : Nat} (h : InvK st k j) : (st.g k).length ≤ 1099511627776 := by
  have h1 := (good_parts h.half.good).2.2.2.2.1
  have h2 := h.half.tk
  omega
theorem Inv.fits {st : Lk} (h : Inv st) : Fits st :=
  ⟨h.1.u, h.2.u, h.1.got, h.2.got, Nat.le_trans h.1.sent (by unfold maxLen; omega), Nat.le_trans h.2.sent (by unfold maxLen; omega)⟩

/-- The answers of an end ask for what it hasn't. -/
theorem take_asks {s : Sd} {f : Fr} {t : Nat} (ht : s.taken = t) : Ask (takeS s f).l t := by
  intro y hy hk
  unfold takeS at hy
  split at hy
  · cases hy
  · split at hy
    · cases hy
    · split at hy
      · cases hy
      · split at hy
        · simp only [Sd.again, List.mem_map] at hy
          obtain ⟨i, _, rfl⟩ := hy
          exact absurd hk (by simp [Sd.data])
        · split at hy
          · obtain rfl : y = _ := by simpa using hy
            simp [ht]
          · cases hy

section
variable {st : Lk} {k j : Nat}
theorem tookK_e (hkj : 1 - k = j) (r : TakeR) : (tookK st k r).e = upd st.e k r.s ∧ (tookK st k r).u = upd st.u j (putU (st.u j) r.l) ∧ (tookK st k r).g = if r.m.size = 0 then st.g else upd st.g k (st.g k ++ [r.m]) := by
  subst hkj
  unfold tookK
  by_cases h : r.m.size = 0
  · rw [if_pos h, if_pos h]
    exact ⟨rfl, rfl, rfl⟩
  · rw [if_neg h, if_neg h]
    exact ⟨rfl, rfl, rfl⟩

theorem off_inv (hne : k ≠ j) (p : Nat) (keep : Bool) (h1 : InvK st k j) (h2 : InvK st j k) : InvK (offK st k p keep) k j ∧ InvK (offK st k p keep) j k := by
  unfold offK
  cases keep with
  | true => exact ⟨h1, h2⟩
  | false =>
    rw [if_neg (by decide)]
    refine ⟨⟨?_, ?_, ?_⟩, ⟨?_, ?_, ?_⟩⟩
    · show Half (st.e k) (upd st.u k _ k) (st.g k) (st.e j) (st.g j)
      rw [upd_same]
      exact lose_step h1.half without_mem
    · show (upd st.u k _ k).length ≤ 4096
      rw [upd_same]
      exact Nat.le_trans (without_le _ _) h1.u
    · show Ask (upd st.u k _ k) _
      rw [upd_same]
      exact h1.ask.sub without_mem
    · show Half (st.e j) (upd st.u k _ j) (st.g j) (st.e k) (st.g k)
      rw [upd_other _ _ (Ne.symm hne)]
      exact h2.half
    · show (upd st.u k _ j).length ≤ 4096
      rw [upd_other _ _ (Ne.symm hne)]
      exact h2.u
    · show Ask (upd st.u k _ j) _
      rw [upd_other _ _ (Ne.symm hne)]
      exact h2.ask

/-- A frame of the way comes, whatever has become of its place there. -/
theorem took_inv {f : Fr} {x : Lk} (hkj : 1 - k = j) (hne : k ≠ j) (hf : f ∈ st.u k) (h1 : InvK st k j) (h2 : InvK st j k) (hx1 : InvK x k j) (he : x.e = st.e) (hg : x.g = st.g) (hu : x.u j = st.u j) :
    (takeS (st.e k) f).e = 0 ∧ InvK (tookK x k (takeS (st.e k) f)) k j ∧ InvK (tookK x k (takeS (st.e k) f)) j k := by
  have hjk := Ne.symm hne
  obtain ⟨t1, -, t3⟩ := take_step h1.half h2.half hf
  have ha := take_asks (f := f) h1.half.tk
  refine ⟨t1, ?_⟩
  obtain ⟨te, tu, tg⟩ := tookK_e (st := x) hkj (takeS (st.e k) f)
  obtain ⟨r, hr⟩ : ∃ r, r = takeS (st.e k) f := ⟨_, rfl⟩
  rw [← hr] at t3 ha te tu tg ⊢
  have hsub : ∀ y ∈ putU (x.u j) r.l, y ∈ st.u j ++ r.l := fun y hy => by rw [hu] at hy; exact putU_mem y hy
  have hlen : (putU (x.u j) r.l).length ≤ 4096 := putU_len _ _ (by rw [hu]; exact h2.u)
  rcases t3 with ⟨m0, ha1, ha2⟩ | ⟨m1, ha1, ha2⟩
  · rw [if_pos (by rw [m0]; rfl)] at tg
    refine ⟨⟨?_, ?_, ?_⟩, ⟨?_, ?_, ?_⟩⟩
    · rw [te, tu, tg, upd_same, upd_other _ _ hjk, upd_other _ _ hne, he, hg]
      exact ⟨ha1.good, ha1.tk, ha1.pre, ha1.kn, fun g hgm => by have := hx1.half.fr g hgm; rwa [he, hg] at this⟩
    · rw [tu, upd_other _ _ hne]; exact hx1.u
    · rw [tu, tg, upd_other _ _ hne]; exact hx1.ask
    · rw [te, tu, tg, upd_same, upd_other _ _ hjk, upd_same, he, hg]
      exact lose_step ha2 hsub
    · rw [tu, upd_same]; exact hlen
    · rw [tu, tg, upd_same, hg]
      exact (h2.ask.app ha).sub hsub
  · rw [if_neg (by omega)] at tg
    refine ⟨⟨?_, ?_, ?_⟩, ⟨?_, ?_, ?_⟩⟩
    · rw [te, tu, tg, upd_same, upd_same, upd_other _ _ hjk, upd_other _ _ hjk, upd_other _ _ hne, he, hg]
      exact ⟨ha1.good, ha1.tk, ha1.pre, ha1.kn, fun g hgm => by have := hx1.half.fr g hgm; rwa [he, hg] at this⟩
    · rw [tu, upd_other _ _ hne]; exact hx1.u
    · rw [tu, tg, upd_other _ _ hne, upd_other _ _ hjk]; exact hx1.ask
    · rw [te, tu, tg, upd_same, upd_same, upd_other _ _ hjk, upd_other _ _ hjk, upd_same, he, hg]
      exact lose_step ha2 hsub
    · rw [tu, upd_same]; exact hlen
    · rw [tu, tg, upd_same, upd_same, hg]
      exact ((h2.ask.app ha).sub hsub).mono (by simp)

theorem come_eq {i : Int} {keep : Bool} (hkj : 1 - k = j) (hne : k ≠ j) (h1 : InvK st k j) (h2 : InvK st j k) (hin : 0 ≤ i ∧ i < (st.u k).length) :
    comeK st k i keep = (tookK (offK st k i.toNat keep) k (takeS (st.e k) ((st.u k).getD i.toNat default)), 0) ∧ (st.u k).getD i.toNat default ∈ st.u k ∧
    InvK (tookK (offK st k i.toNat keep) k (takeS (st.e k) ((st.u k).getD i.toNat default))) k j ∧ InvK (tookK (offK st k i.toNat keep) k (takeS (st.e k) ((st.u k).getD i.toNat default))) j k := by
  have hm : (st.u k).getD i.toNat default ∈ st.u k := by
    rw [getD_lt (by omega)]
    exact List.getElem_mem _
  have ho := off_inv hne i.toNat keep h1 h2
  have he : (offK st k i.toNat keep).e = st.e := by unfold offK; split <;> rfl
  have hg : (offK st k i.toNat keep).g = st.g := by unfold offK; split <;> rfl
  have hu : (offK st k i.toNat keep).u j = st.u j := by
    unfold offK
    split
    · rfl
    · exact upd_other _ _ (Ne.symm hne)
  have ht := took_inv hkj hne hm h1 h2 ho.1 he hg hu
  unfold comeK
  rw [if_pos hin, if_pos ht.1]
  exact ⟨rfl, hm, ht.2⟩

theorem come_inv (hkj : 1 - k = j) (hne : k ≠ j) (h1 : InvK st k j) (h2 : InvK st j k) (i : Int) (keep : Bool) : InvK (comeK st k i keep).1 k j ∧ InvK (comeK st k i keep).1 j k := by
  by_cases hin : 0 ≤ i ∧ i < (st.u k).length
  · obtain ⟨e, -, r⟩ := come_eq (keep := keep) hkj hne h1 h2 hin
    rw [e]
    exact r
  · unfold comeK
    rw [if_neg hin]
    exact ⟨h1, h2⟩

theorem sub_put_inv {s' : Sd} {l : List Fr} (hne : k ≠ j) (h1 : Half s' (st.u k) (st.g k) (st.e j) (st.g j)) (h2 : Half (st.e j) (st.u j ++ l) (st.g j) s' (st.g k)) (hu1 : (st.u k).length ≤ 4096) (hu2 : (st.u j).length ≤ 4096)
    (ha1 : Ask (st.u k) (st.g j).length) (ha2 : Ask (st.u j ++ l) (st.g k).length) :
    InvK ((st.setE k s').setU j (putU (st.u j) l)) k j ∧ InvK ((st.setE k s').setU j (putU (st.u j) l)) j k := by
  have hjk := Ne.symm hne
  refine ⟨⟨?_, ?_, ?_⟩, ⟨?_, ?_, ?_⟩⟩
  · show Half (upd st.e k s' k) (upd st.u j _ k) (st.g k) (upd st.e k s' j) (st.g j)
    rw [upd_same, upd_other _ _ hne, upd_other _ _ hjk]
    exact h1
  · show (upd st.u j _ k).length ≤ 4096
    rw [upd_other _ _ hne]
    exact hu1
  · show Ask (upd st.u j _ k) _
    rw [upd_other _ _ hne]
    exact ha1
  · show Half (upd st.e k s' j) (upd st.u j _ j) (st.g j) (upd st.e k s' k) (st.g k)
    rw [upd_same, upd_same, upd_other _ _ hjk]
    exact lose_step h2 putU_mem
  · show (upd st.u j _ j).length ≤ 4096
    rw [upd_same]
    exact putU_len _ _ hu2
  · show Ask (upd st.u j _ j) _
    rw [upd_same]
    exact ha2.sub putU_mem

theorem send_inv (hkj : 1 - k = j) (hne : k ≠ j) (h1 : InvK st k j) (h2 : InvK st j k) (m : ByteArray) : InvK (sendK st k m).1 k j ∧ InvK (sendK st k m).1 j k := by
  unfold sendK
  by_cases h : (sendS (st.e k) m).e = 0
  · rw [if_pos h, hkj]
    have hs := send_step (m := m) (s' := (sendS (st.e k) m).s) (f := (sendS (st.e k) m).f) h1.half h2.half (by rw [← h])
    refine sub_put_inv hne hs.1 hs.2 h1.u h2.u h1.ask (h2.ask.app fun y hy hk => ?_)
    obtain rfl : y = _ := by simpa using hy
    unfold sendS at hk h
    split at hk <;> rename_i c1
    · exact absurd hk (by simp [zeroFr])
    · split at hk <;> rename_i c2
      · exact absurd hk (by simp [zeroFr])
      · split at hk <;> exact absurd hk (by simp [zeroFr])
  · rw [if_neg h]
    exact ⟨h1, h2⟩

theorem tick_inv (hkj : 1 - k = j) (hne : k ≠ j) (h1 : InvK st k j) (h2 : InvK st j k) : InvK (tickK st k).1 k j ∧ InvK (tickK st k).1 j k := by
  unfold tickK
  rw [if_pos h1.half.good, hkj]
  have hs := tick_step h1.half h2.half
  have hset : st.setE k (st.e k) = st := by
    show Lk.mk (upd st.e k (st.e k)) st.u st.g = st
    have : upd st.e k (st.e k) = st.e := by
      funext i
      unfold upd
      split
      · rename_i h; rw [h]
      · rfl
    rw [this]
  have := sub_put_inv (s' := st.e k) (l := [tickF (st.e k)]) hne h1.half hs h1.u h2.u h1.ask (h2.ask.app fun y hy hk => by rw [List.mem_singleton.1 hy] at hk; exact absurd hk (by simp [tickF]))
  rwa [hset] at this

theorem lose_inv (hne : k ≠ j) (h1 : InvK st k j) (h2 : InvK st j k) (i : Int) : InvK (loseK st k i).1 k j ∧ InvK (loseK st k i).1 j k := by
  by_cases hin : 0 ≤ i ∧ i < (st.u k).length
  · rw [show loseK st k i = (st.setU k (without (st.u k) i.toNat), 0) from if_pos hin]
    have h := off_inv hne i.toNat false h1 h2
    rwa [show offK st k i.toNat false = st.setU k (without (st.u k) i.toNat) from if_neg (by decide)] at h
  · rw [show loseK st k i = (st, 1) from if_neg hin]
    exact ⟨h1, h2⟩
end

theorem Inv.come (k : Nat) (hk : k = 0 ∨ k = 1) {st : Lk} (h : Inv st) (i : Int) (keep : Bool) : Inv (comeK st k i keep).1 := by
  rcases hk with rfl | rfl
  · exact come_inv rfl (by decide) h.1 h.2 i keep
  · exact (come_inv rfl (by decide) h.2 h.1 i keep).symm
theorem Inv.send (k : Nat) (hk : k = 0 ∨ k = 1) {st : Lk} (h : Inv st) (m : ByteArray) : Inv (sendK st k m).1 := by
  rcases hk with rfl | rfl
  · exact send_inv rfl (by decide) h.1 h.2 m
  · exact (send_inv rfl (by decide) h.2 h.1 m).symm
theorem Inv.tick (k : Nat) (hk : k = 0 ∨ k = 1) {st : Lk} (h : Inv st) : Inv (tickK st k).1 := by
  rcases hk with rfl | rfl
  · exact tick_inv rfl (by decide) h.1 h.2
  · exact (tick_inv rfl (by decide) h.2 h.1).symm
theorem Inv.lose (k : Nat) (hk : k = 0 ∨ k = 1) {st : Lk} (h : Inv st) (i : Int) : Inv (loseK st k i).1 := by
  rcases hk with rfl | rfl
  · exact lose_inv (by decide) h.1 h.2 i
  · exact (lose_inv (by decide) h.2 h.1 i).symm
theorem Inv.all {n : Nat} : ∀ {st st9 : Lk}, Inv st → allS n st = some st9 → Inv st9 := by
  induction n with
  | zero => intro st st9 _ h; cases h
  | succ n ih =>
    intro st st9 hi h
    have c0 := hi.come 0 (.inl rfl) 0 false
    have c1 := c0.come 1 (.inr rfl) 0 false
    unfold allS at h
    split at h
    · exact ih c0 h
    · split at h
      · exact ih c1 h
      · rw [← Option.some.inj h]
        exact c1

end Go.Proofs.Ytnbndhmdfheikaa
