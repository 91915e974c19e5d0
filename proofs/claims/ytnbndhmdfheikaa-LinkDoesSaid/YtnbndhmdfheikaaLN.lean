/- Plain laws of the link: 'all' ends, and a Round mends. -/
import Derived.Test.YtnbndhmdfheikaaLI
namespace Go.Proofs.Ytnbndhmdfheikaa
open Go.RowKit

/-! ### What is laid on a way while all comes leaves no gap -/
def run (T : Int) : List Fr → Prop
  | [] => True
  | f :: v => (f.kind = 2 ∧ run T v) ∨ (f.kind = 1 ∧ f.num ≤ T + 1 ∧ run (max T f.num) v)
theorem run_mono {v : List Fr} : ∀ {T T' : Int}, T ≤ T' → run T v → run T' v := by
  induction v with
  | nil => intros; trivial
  | cons f v ih =>
    intro T T' h hr
    rcases hr with ⟨h1, h2⟩ | ⟨h1, h2, h3⟩
    · exact .inl ⟨h1, ih h h2⟩
    · exact .inr ⟨h1, by omega, ih (by omega) h3⟩
theorem run_append {a : List Fr} : ∀ {T : Int} {b : List Fr}, run T a → run T b → run T (a ++ b) := by
  induction a with
  | nil => intro T b _ hb; exact hb
  | cons f v ih =>
    intro T b ha hb
    rcases ha with ⟨h1, h2⟩ | ⟨h1, h2, h3⟩
    · exact .inl ⟨h1, ih h2 hb⟩
    · exact .inr ⟨h1, h2, ih h3 (run_mono (by omega) hb)⟩
theorem run_take {v : List Fr} : ∀ {T : Int} {n : Nat}, run T v → run T (v.take n) := by
  induction v with
  | nil => intro T n _; rw [List.take_nil]; trivial
  | cons f v ih =>
    intro T n hr
    cases n with
    | zero => trivial
    | succ n =>
      rcases hr with ⟨h1, h2⟩ | ⟨h1, h2, h3⟩
      · exact .inl ⟨h1, ih h2⟩
      · exact .inr ⟨h1, h2, ih h3⟩
/-- Messages in a row, from the q-th on. -/
def series (s : Sd) : Int → Nat → List Fr
  | _, 0 => []
  | q, m + 1 => s.data q :: series s (q + 1) m
theorem series_eq (s : Sd) : ∀ (m : Nat) (q : Int), (List.range m).map (fun i : Nat => s.data (q + i)) = series s q m := by
  intro m
  induction m with
  | zero => intro q; rfl
  | succ m ih =>
    intro q
    rw [List.range_succ_eq_map, List.map_cons, List.map_map]
    show s.data (q + (0 : Nat)) :: _ = s.data q :: series s (q + 1) m
    rw [← ih (q + 1)]
    refine congr (congrArg List.cons (by simp)) (List.map_congr_left fun i _ => ?_)
    show s.data (q + ((i + 1 : Nat) : Int)) = s.data (q + 1 + i)
    congr 1
    omega
theorem again_series (s : Sd) (q : Int) : s.again q = series s q (min 64 (s.sent.length + 1 - q.toNat)) := series_eq s _ q
theorem run_series {s : Sd} : ∀ {m : Nat} {q T : Int}, q ≤ T + 1 → run T (series s q m) := by
  intro m
  induction m with
  | zero => intros; trivial
  | succ m ih =>
    intro q T h
    exact .inr ⟨rfl, h, ih (by show q + 1 ≤ max T q + 1; omega)⟩

/-- What a way is worth: so many frames can still come of it. -/
def cst : List Fr → Nat
  | [] => 0
  | f :: v => (if f.kind = 2 then 65 else 1) + cst v
theorem cst_append {b : List Fr} : ∀ {a : List Fr}, cst (a ++ b) = cst a + cst b := by
  intro a
  induction a with
  | nil => simp [cst]
  | cons f v ih => rw [List.cons_append, cst, cst, ih]; omega
theorem cst_take {v : List Fr} : ∀ {n : Nat}, cst (v.take n) ≤ cst v := by
  induction v with
  | nil => intro n; rw [List.take_nil]; exact Nat.le_refl _
  | cons f v ih =>
    intro n
    cases n with
    | zero => exact Nat.zero_le _
    | succ n => rw [List.take_succ_cons, cst, cst]; have := @ih n; omega
theorem cst_series {s : Sd} : ∀ {m : Nat} {q : Int}, cst (series s q m) = m := by
  intro m
  induction m with
  | zero => intros; rfl
  | succ m ih => intro q; rw [series, cst, ih, if_neg (by show ¬ (1 : Int) = 2; decide)]; omega
theorem len_le_cst : ∀ {v : List Fr}, v.length ≤ cst v := by
  intro v
  induction v with
  | nil => exact Nat.le_refl _
  | cons f v ih => rw [List.length_cons, cst]; split <;> omega

theorem putU_take {fs : List Fr} : ∀ {u : List Fr}, ∃ n, putU u fs = u ++ fs.take n := by
  induction fs with
  | nil => intro u; exact ⟨0, by simp [putU]⟩
  | cons f fs ih =>
    intro u
    have e : putU u (f :: fs) = putU (if u.length < 4096 then u ++ [f] else u) fs := rfl
    by_cases h : u.length < 4096
    · obtain ⟨n, hn⟩ := ih (u := u ++ [f])
      exact ⟨n + 1, by rw [e, if_pos h, hn]; simp⟩
    · rw [e, if_neg h]
      refine ⟨0, ?_⟩
      have key : ∀ gs : List Fr, putU u gs = u := fun gs => by
        induction gs with
        | nil => rfl
        | cons g gs ihg =>
          have e : putU u (g :: gs) = putU (if u.length < 4096 then u ++ [g] else u) gs := rfl
          rw [e, if_neg h, ihg]
      rw [key]
      simp
theorem putU_room {fs : List Fr} : ∀ {u : List Fr}, u.length + fs.length ≤ 4096 → putU u fs = u ++ fs := by
  induction fs with
  | nil => intro u _; simp [putU]
  | cons f fs ih =>
    intro u h
    have e : putU u (f :: fs) = putU (if u.length < 4096 then u ++ [f] else u) fs := rfl
    rw [List.length_cons] at h
    rw [e, if_pos (by omega), ih (by simp; omega)]
    simp

/-! ### How far the messages on a way reach -/
def reach (T : Int) : List Fr → Int
  | [] => T
  | f :: v => reach (if f.kind = 1 ∧ f.num = T + 1 then T + 1 else T) v
theorem reach_ge {v : List Fr} : ∀ {T : Int}, T ≤ reach T v := by
  induction v with
  | nil => intro T; exact Int.le_refl _
  | cons f v ih =>
    intro T
    rw [reach]
    refine Int.le_trans ?_ ih
    split <;> omega
theorem reach_append {b : List Fr} {a : List Fr} : ∀ {T : Int}, reach T (a ++ b) = reach (reach T a) b := by
  induction a with
  | nil => intro T; rfl
  | cons f v ih => intro T; rw [List.cons_append, reach, reach, ih]
theorem reach_series {s : Sd} : ∀ {m : Nat} {q T : Int}, q ≤ T + 1 → q + m - 1 ≤ reach T (series s q m) := by
  intro m
  induction m with
  | zero => intro q T h; show q + ((0 : Nat) : Int) - 1 ≤ T; omega
  | succ m ih =>
    intro q T h
    rw [series, reach]
    by_cases hq : q = T + 1
    · rw [if_pos ⟨rfl, hq⟩]
      have := ih (q := q + 1) (T := T + 1) (by omega)
      omega
    · rw [if_neg fun e => hq e.2]
      have := ih (q := q + 1) (T := T) (by omega)
      omega

/-! ### What one frame makes -/
/-- What an end answers to a frame that can be. -/
inductive Took (s : Sd) (f : Fr) (r : TakeR) : Prop
  | data (hk : f.kind = 1) (hn : f.num = s.taken + 1) (ht : r.s.taken = s.taken + 1) (hl : r.l = [])
  | ask (hk : f.kind = 2) (ht : r.s.taken = s.taken) (hl : r.l = s.again f.num ∨ ∃ s' : Sd, s'.sent = s.sent ∧ r.l = s'.again f.num)
  | gap (hk : f.kind ≠ 2) (hn : s.taken < f.num) (hd : ¬ (f.kind = 1 ∧ f.num = s.taken + 1)) (ht : r.s.taken = s.taken) (hl : r.l = [⟨2, s.taken + 1, s.taken, noBytes⟩])
  | old (hk : f.kind ≠ 2) (hn : f.num ≤ s.taken) (ht : r.s.taken = s.taken) (hl : r.l = [])

theorem took_of {s : Sd} {f : Fr} (hg : goodB s = true) (hv : validB f = true) : Took s f (takeS s f) ∧ (takeS s f).s.sent = s.sent ∧ (takeS s f).s.known = (s.knows f.taken).known := by
  unfold takeS
  rw [if_neg (by simp [hg]), if_neg (by simp [hv])]
  by_cases hd : f.kind = 1 ∧ f.num = s.taken + 1
  · rw [if_pos hd]
    exact ⟨.data hd.1 hd.2 rfl rfl, rfl, rfl⟩
  · rw [if_neg hd]
    by_cases h2 : f.kind = 2
    · rw [if_pos h2]
      exact ⟨.ask h2 rfl (.inl rfl), rfl, rfl⟩
    · rw [if_neg h2]
      by_cases hlt : s.taken < f.num
      · rw [if_pos hlt]
        exact ⟨.gap h2 hlt hd rfl rfl, rfl, rfl⟩
      · rw [if_neg hlt]
        exact ⟨.old h2 (by omega) rfl rfl, rfl, rfl⟩

/-- The first frame on the way to k has come. -/
structure Pop (k j : Nat) (f : Fr) (v : List Fr) (st st' : Lk) : Prop where
  was : st.u k = f :: v
  uk : st'.u k = v
  uj : st'.u j = putU (st.u j) (takeS (st.e k) f).l
  ej : st'.e j = st.e j
  ek : st'.e k = (takeS (st.e k) f).s
  gj : st'.g j = st.g j
  good : goodB (st.e k) = true
  valid : validB f = true
  ask : f.kind = 2 → f.num ≤ (st.e j).taken + 1

section
variable {k j : Nat} {st : Lk} {f : Fr} {v : List Fr}
theorem come_nil (h : st.u k = []) : comeK st k 0 false = (st, 1) := by
  unfold comeK
  rw [if_neg (by rw [h]; simp)]
theorem come_pop (hkj : 1 - k = j) (hne : k ≠ j) (h1 : InvK st k j) (h2 : InvK st j k) (hu : st.u k = f :: v) :
    (comeK st k 0 false).2 = 0 ∧ Pop k j f v st (comeK st k 0 false).1 := by
  have hjk := Ne.symm hne
  obtain ⟨e, -, -⟩ := come_eq (keep := false) (i := 0) hkj hne h1 h2 ⟨Int.le_refl _, by rw [hu]; simp⟩
  have hget : (st.u k).getD (0 : Int).toNat default = f := by rw [hu]; rfl
  have hoff : offK st k (0 : Int).toNat false = st.setU k v := by
    unfold offK
    rw [if_neg (by decide), hu]
    rfl
  rw [hget, hoff] at e
  rw [e]
  refine ⟨rfl, ?_⟩
  obtain ⟨te, tu, tg⟩ := tookK_e (st := st.setU k v) hkj (takeS (st.e k) f)
  have hf : f ∈ st.u k := by rw [hu]; exact List.mem_cons_self ..
  refine ⟨hu, ?_, ?_, ?_, ?_, ?_, h1.half.good, (h1.half.fr f hf).1, fun hk => ?_⟩
  · dsimp only
    rw [tu, upd_other _ _ hne]
    exact upd_same _ _ _
  · dsimp only
    rw [tu, upd_same]
    show putU (upd st.u k v j) _ = _
    rw [upd_other _ _ hjk]
  · dsimp only
    rw [te, upd_other _ _ hjk]
    rfl
  · dsimp only
    rw [te, upd_same]
  · dsimp only
    rw [tg]
    split
    · rfl
    · exact upd_other _ _ hjk
  · have := h1.ask f hf hk
    have := h2.half.tk
    omega
end

theorem asks_len {s : Sd} {f : Fr} {r : TakeR} (h : r.l = s.again f.num ∨ ∃ s' : Sd, s'.sent = s.sent ∧ r.l = s'.again f.num) : ∃ s' : Sd, r.l = series s' f.num (min 64 (s.sent.length + 1 - f.num.toNat)) := by
  rcases h with h | ⟨s', hs, h⟩
  · exact ⟨s, by rw [h, again_series]⟩
  · exact ⟨s', by rw [h, again_series, hs]⟩

/-- A way: old frames, then frames that leave no gap. -/
def Mea (st : Lk) (k m : Nat) : Prop := ∃ o v, st.u k = o ++ v ∧ run (st.e k).taken v ∧ 66 * o.length + cst v = m
theorem Mea.all (st : Lk) (k : Nat) : Mea st k (66 * (st.u k).length) := ⟨st.u k, [], by simp, trivial, by simp [cst]⟩
theorem Mea.len {st : Lk} {k m : Nat} (h : Mea st k m) : (st.u k).length ≤ m := by
  obtain ⟨o, v, h1, _, h2⟩ := h
  have := len_le_cst (v := v)
  rw [h1, List.length_append]
  omega

section
variable {k j m m' : Nat} {st st' : Lk} {f : Fr} {v : List Fr}
theorem Pop.taken (h : Pop k j f v st st') : (st.e k).taken ≤ (st'.e k).taken := by
  rw [h.ek]
  rcases (took_of h.good h.valid).1 with ⟨_, _, ht, _⟩ | ⟨_, ht, _⟩ | ⟨_, _, _, ht, _⟩ | ⟨_, _, ht, _⟩ <;> omega
theorem Pop.sent (h : Pop k j f v st st') : (st'.e k).sent = (st.e k).sent := by
  rw [h.ek]
  exact (took_of h.good h.valid).2.1
theorem Pop.grows (h : Pop k j f v st st') : ∀ g ∈ st.u j, g ∈ st'.u j := fun g hg => by
  obtain ⟨n, hn⟩ := putU_take (u := st.u j) (fs := (takeS (st.e k) f).l)
  rw [h.uj, hn]
  exact List.mem_append_left _ hg

theorem Pop.mea (h : Pop k j f v st st') (hk : Mea st k m) (hj : Mea st j m') : ∃ m2 m2', Mea st' k m2 ∧ Mea st' j m2' ∧ m2 + m2' < m + m' := by
  obtain ⟨n, hn⟩ := putU_take (u := st.u j) (fs := (takeS (st.e k) f).l)
  have htk := h.taken
  have t := (took_of h.good h.valid).1
  have hc : cst (takeS (st.e k) f).l ≤ 65 ∧ run (st.e j).taken (takeS (st.e k) f).l ∧ (f.kind = 2 → cst (takeS (st.e k) f).l ≤ 64) := by
    rcases t with ⟨h1, _, _, hl⟩ | ⟨h1, _, hl⟩ | ⟨h1, _, _, _, hl⟩ | ⟨h1, _, _, hl⟩
    · rw [hl]; exact ⟨Nat.zero_le _, trivial, fun _ => Nat.zero_le _⟩
    · obtain ⟨s', hs⟩ := asks_len hl
      rw [hs, cst_series]
      exact ⟨by omega, run_series (h.ask h1), fun _ => by omega⟩
    · rw [hl]; exact ⟨Nat.le_refl _, .inl ⟨rfl, trivial⟩, fun h2 => absurd h2 h1⟩
    · rw [hl]; exact ⟨Nat.zero_le _, trivial, fun _ => Nat.zero_le _⟩
  obtain ⟨c1, c2, c3⟩ := hc
  obtain ⟨o, w, e1, r1, z1⟩ := hk
  obtain ⟨o', w', e2, r2, z2⟩ := hj
  have hct := cst_take (v := (takeS (st.e k) f).l) (n := n)
  have M2 : Mea st' j (66 * o'.length + cst (w' ++ (takeS (st.e k) f).l.take n)) :=
    ⟨o', _, by rw [h.uj, hn, e2, List.append_assoc], by rw [h.ej]; exact run_append r2 (run_take c2), rfl⟩
  rw [cst_append] at M2
  have hw := h.was
  rw [e1] at hw
  rcases o with _ | ⟨f', o⟩
  · rw [List.nil_append] at hw
    subst hw
    rcases r1 with ⟨k2, r1⟩ | ⟨k1, kn, r1⟩
    · have M1 : Mea st' k (cst v) := ⟨[], v, by rw [h.uk]; rfl, run_mono htk r1, by simp⟩
      refine ⟨_, _, M1, M2, ?_⟩
      have := c3 k2
      rw [cst, if_pos k2] at z1
      simp at z1
      omega
    · have M1 : Mea st' k (cst v) := by
        refine ⟨[], v, by rw [h.uk]; rfl, run_mono ?_ r1, by simp⟩
        rw [h.ek]
        rcases t with ⟨_, _, ht, _⟩ | ⟨h2, _, _⟩ | ⟨_, h3, h4, _, _⟩ | ⟨_, h3, ht, _⟩
        · omega
        · omega
        · exact absurd ⟨k1, by omega⟩ h4
        · omega
      refine ⟨_, _, M1, M2, ?_⟩
      have hz : cst (takeS (st.e k) f).l = 0 := by
        rcases t with ⟨_, _, _, hl⟩ | ⟨h2, _, _⟩ | ⟨_, h3, h4, _, _⟩ | ⟨_, h3, _, hl⟩
        · rw [hl]; rfl
        · omega
        · exact absurd ⟨k1, by omega⟩ h4
        · rw [hl]; rfl
      rw [cst, if_neg (by omega)] at z1
      simp at z1
      omega
  · rw [List.cons_append] at hw
    injection hw with hw1 hw2
    have M1 : Mea st' k (66 * o.length + cst w) := ⟨o, w, by rw [h.uk, hw2], run_mono htk r1, rfl⟩
    refine ⟨_, _, M1, M2, ?_⟩
    simp at z1
    omega
end

/-- All comes, and nothing is under way then. What holds of each state on the way holds at the end. -/
theorem all_ends (P : Lk → Prop) (M : Nat) (hP : ∀ st st' k j f v, (k = 0 ∧ j = 1 ∨ k = 1 ∧ j = 0) → Inv st → (st.u j).length ≤ M → Pop k j f v st st' → P st → P st') :
    ∀ (n : Nat) (st : Lk) (m0 m1 : Nat), Inv st → P st → Mea st 0 m0 → Mea st 1 m1 → m0 + m1 < n → m0 + m1 ≤ M → ∃ st9, allS n st = some st9 ∧ Inv st9 ∧ P st9 ∧ st9.u 0 = [] ∧ st9.u 1 = [] := by
  intro n
  induction n with
  | zero => intro st m0 m1 _ _ _ _ h; omega
  | succ n ih =>
    intro st m0 m1 hi hp hm0 hm1 hlt hM
    cases h0 : st.u 0 with
    | cons f v =>
      obtain ⟨c1, c2⟩ := come_pop (k := 0) (j := 1) rfl (by decide) hi.1 hi.2 h0
      obtain ⟨a, b, ha, hb, hab⟩ := c2.mea hm0 hm1
      obtain ⟨st9, q⟩ := ih _ a b (hi.come 0 (.inl rfl) 0 false) (hP _ _ 0 1 f v (.inl ⟨rfl, rfl⟩) hi (by have := hm1.len; omega) c2 hp) ha hb (by omega) (by omega)
      refine ⟨st9, ?_, q.2⟩
      rw [allS, if_pos c1]
      exact q.1
    | nil =>
      have c0 := come_nil h0
      cases h1 : st.u 1 with
      | cons f v =>
        obtain ⟨c1, c2⟩ := come_pop (k := 1) (j := 0) rfl (by decide) hi.2 hi.1 h1
        obtain ⟨b, a, hb, ha, hab⟩ := c2.mea hm1 hm0
        obtain ⟨st9, q⟩ := ih _ a b (hi.come 1 (.inr rfl) 0 false) (hP _ _ 1 0 f v (.inr ⟨rfl, rfl⟩) hi (by have := hm0.len; omega) c2 hp) ha hb (by omega) (by omega)
        refine ⟨st9, ?_, q.2⟩
        rw [allS, c0, if_neg (show ¬ (1 : Int) = 0 by decide), if_pos c1]
        exact q.1
      | nil =>
        have c1 := come_nil h1
        refine ⟨st, ?_, hi, hp, h0, h1⟩
        rw [allS, c0, if_neg (show ¬ (1 : Int) = 0 by decide)]
        dsimp only
        rw [c1, if_neg (show ¬ (1 : Int) = 0 by decide)]

end Go.Proofs.Ytnbndhmdfheikaa
