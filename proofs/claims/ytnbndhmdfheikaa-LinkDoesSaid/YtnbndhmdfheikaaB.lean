/- What the texts of this chapter share beyond those of package sess. By gen_base.py. -/
import Derived.Test.YtnbndhmdfheikaaK1
import Derived.Test.YtnbndhmdfheikaaW7
import Derived.Deep.RegionHeld3
import Derived.Deep.DeepMust
import Derived.Deep.DeepCutAuto
import Derived.Deep.CutBlock
import Derived.Deep.CutRange
import Derived.Deep.QuietTactic
import Derived.BigQuiet
import Derived.StillTailTactics
import Derived.Lib.Hide
import Derived.Lib.SliceRun
import Derived.Laws.IdiomCopy
import Derived.Shelf.RegionOpenPlain
import Derived.Laws.Externs
namespace Go.Proofs.Ytnbndhmdfheikaa
open Go.RowKit

section
variable {w w' : World} {g : Nat} {t : TypeId} {cs : Array Value}
theorem Bk.two {a b : Value} (h : Bk w g t #[a, b]) : w.cell? ⟨g, 0, none⟩ = some a ∧ w.cell? ⟨g, 1, none⟩ = some b ∧ w.frozen? ⟨g, 0, none⟩ = false ∧ w.frozen? ⟨g, 1, none⟩ = false ∧ g < w.heap.size :=
  ⟨h.cell 0, h.cell 1, h.frozen 0, h.frozen 1, h.lt⟩
end

section
variable {w w' : World} {base e size n c : Nat} {A : Option Addr} {xs : List Value}
theorem own_keep (h : w.ownsRow base e size (.slice A n c) n xs) (hk : ∀ p, A = some p → w'.heap[p.block]? = w.heap[p.block]?) : w'.ownsRow base e size (.slice A n c) n xs := by
  refine ⟨h.1, ?_⟩
  rcases h.2 with h0 | ⟨g, cap, cur, hv, hg, hh, r⟩
  · exact .inl h0
  · refine .inr ⟨g, cap, cur, hv, hg, ?_, r⟩
    injection hv with hA
    rw [hk _ hA]; exact hh

theorem own_lt (h : w.ownsRow base e size (.slice A n c) n xs) : ∀ p, A = some p → base ≤ p.block ∧ p.block < w.heap.size := fun p hp => by
  subst hp
  exact h.lt p.block rfl
end

theorem getD_lt {α : Type} {l : List α} {d : α} {k : Nat} (h : k < l.length) : l.getD k d = l[k] := by simp [List.getD, h]
theorem add0 (b j k : Nat) : (⟨b, j, none⟩ : Addr).add k = ⟨b, j + k, none⟩ := by
  unfold Addr.add
  split
  · simp_all
  · rfl
/-- Cells laid over an array from o on. -/
def ow (cur : Array Value) (o : Nat) : List Value → Array Value
  | [] => cur
  | v :: r => ow (cur.setIfInBounds o v) (o + 1) r
theorem ow_size (vs : List Value) : ∀ (cur : Array Value) (o : Nat), (ow cur o vs).size = cur.size := by
  induction vs with
  | nil => exact fun _ _ => rfl
  | cons v r ih => exact fun cur o => by rw [ow, ih]; simp
theorem ow_list (vs : List Value) : ∀ (cur : Array Value) (o : Nat), o + vs.length ≤ cur.size → (ow cur o vs).toList = cur.toList.take o ++ (vs ++ cur.toList.drop (o + vs.length)) := by
  induction vs with
  | nil => intro cur o _; simp [ow]
  | cons v r ih =>
    intro cur o h
    simp only [List.length_cons] at h
    rw [ow, ih _ _ (by simp; omega)]
    simp only [Array.toList_setIfInBounds, List.length_cons]
    have e1 : (cur.toList.set o v).take (o + 1) = cur.toList.take o ++ [v] := by
      rw [List.take_set, List.take_add_one]
      rw [List.getElem?_eq_getElem (by simp; omega)]
      simp only [Option.toList_some]
      rw [List.set_append_right _ _ (by simp; omega)]
      simp
      rw [Nat.min_eq_left (by omega)]
      simp
    have e2 : (cur.toList.set o v).drop (o + 1 + r.length) = cur.toList.drop (o + (r.length + 1)) := by
      rw [List.drop_set_of_lt (by omega)]
      congr 1
      omega
    rw [e1, e2]
    simp
theorem Bk.cells {t : TypeId} {g : Nat} (vs : List Value) : ∀ {w : World} {cur : Array Value} (o : Nat), Bk w g t cur → Bk (w.setCells g o vs) g t (ow cur o vs) := by
  induction vs with
  | nil => exact fun _ h => h
  | cons v r ih => exact fun o h => by rw [World.setCells]; exact ih _ (h.set o v)
theorem Below.cells {B g : Nat} (hg : B ≤ g) (vs : List Value) : ∀ {w W : World} (o : Nat), Below B w W → Below B w (W.setCells g o vs) := by
  induction vs with
  | nil => exact fun _ h => h
  | cons v r ih => exact fun o h => by rw [World.setCells]; exact ih _ (Below.setCell h (p := ⟨g, o, none⟩) hg v)

theorem shape_bk {w : World} {g : Nat} {t : TypeId} {cs : Array Value} (h : Bk w g t cs) : w.shape? g = some (t, cs.size) := by
  unfold Bk at h
  simp [World.shape?, h]

section
variable {P : Program} {ops : Array Oper} {Q : Exit → Act → World → Prop} {md : Region.Mode} {S : World → Prop} {st : Nat}

/-- Operation st waits for operation i. -/
def waits (md : Region.Mode) (ops : Array Oper) (st i : Nat) : Bool :=
  match ops[st]? with
  | some o => o.after.any fun e => Region.binds md e && e.on == i
  | none => true

theorem not_ready {i : Nat} {listed : Array Bool} (hw : waits md ops st i = true) (hi : i ∈ Region.ready md ops listed) : st ∉ Region.ready md ops listed := by
  intro hs
  obtain ⟨_, o, ho, hall⟩ := mem_ready.1 hs
  simp only [waits, ho] at hw
  obtain ⟨e, he, hb⟩ := Array.any_eq_true'.1 hw
  simp only [Bool.and_eq_true, beq_iff_eq] at hb
  have h1 := hall e he hb.1
  have h0 := (mem_ready.1 hi).1
  rw [hb.2] at h1
  by_cases h : i < listed.size
  · simp [h] at h0 h1
    rw [h0] at h1
    cases h1
  · simp [Array.getElem?_eq_none (Nat.le_of_not_lt h)] at h1

/-- Whatever comes up; S holds behind each but st. -/
def anyL (P : Program) (md : Region.Mode) (ops : Array Oper) (Q : Exit → Act → World → Prop) (S : World → Prop) (st : Nat) : Nat → Array Bool → Act → World → Prop
  | 0, l, a, w => Region.ready md ops l = [] ∧ Q .normal a w
  | n + 1, l, a, w => (Region.ready md ops l = [] → Q .normal a w) ∧
      ∀ i ∈ Region.ready md ops l, wpOp P ops Q i (fun b v => (i ≠ st → S v) ∧ anyL P md ops Q S st n (l.setIfInBounds i true) b v) a w

theorem anyL_any : ∀ (n : Nat) (l : Array Bool) (a : Act) (w : World), anyL P md ops Q S st n l a w → wpAny P md ops Q n l a w
  | 0, _, _, _, h => h
  | n + 1, _, _, _, h => ⟨h.1, fun i hi => wpOp_mono (fun b v k => anyL_any n _ b v k.2) (h.2 i hi)⟩

theorem anyL_first {i : Nat} {oi : Oper} {v : Value} (hi : ops[i]? = some oi) (hsel : ∀ (j : Nat) (o : Oper) cs b, ops[j]? = some o → o.op ≠ .select cs b)
    (hQ : ∀ c a w, Q (.panic c) (a.put oi.dst v) w → Q (.panic c) a w) (hst : waits md ops st i = true) (n : Nat) :
    ∀ (l : Array Bool) (a : Act) (w : World),
      (∀ j oj, ops[j]? = some oj → j ≠ i → l.getD j true = false → (∀ e ∈ oj.after, Region.binds md e = true → e.on ≠ i) → oi.apart ops oj = true) →
      i ∈ Region.ready md ops l → YieldsIf P ops S oi v a → S w → anyL P md ops Q S st n (l.setIfInBounds i true) (a.put oi.dst v) w → anyL P md ops Q S st (n + 1) l a w := by
  induction n with
  | zero =>
    intro l a w _ hr hy hS H
    refine ⟨fun h => (by rw [h] at hr; cases hr), fun j hj => ?_⟩
    by_cases hji : j = i
    · rw [hji]; exact hy.wpOp hi hS ⟨fun _ => hS, H⟩
    · have := ready_mono hj hji
      rw [H.1] at this
      cases this
  | succ n ih =>
    intro l a w hfree hr hy hS H
    refine ⟨fun h => (by rw [h] at hr; cases hr), fun j hj => ?_⟩
    by_cases hji : j = i
    · rw [hji]; exact hy.wpOp hi hS ⟨fun _ => hS, H⟩
    have hjst : j ≠ st := fun h => not_ready hst hr (h ▸ hj)
    obtain ⟨hjun, oj, hoj, hall⟩ := mem_ready.1 hj
    have hiun := (mem_ready.1 hr).1
    have hno : ∀ e ∈ oj.after, Region.binds md e = true → e.on ≠ i := fun e he hb heq => by
      have h1 := hall e he hb
      rw [heq] at h1
      by_cases h : i < l.size
      · simp [h] at hiun h1
        rw [hiun] at h1
        cases h1
      · simp [Array.getElem?_eq_none (Nat.le_of_not_lt h)] at h1
    refine wpOp_mono (fun b u k => ⟨fun _ => k.2.1 hjst, ih _ b u (fun m om hm hmi hun hnm => ?_) (ready_mono hr (Ne.symm hji)) k.1 (k.2.1 hjst) ?_⟩)
      (wpOp_putIf hoj (hfree j oj hoj hji hjun hno) (fun cs b => hsel i oi cs b hi) (fun cs b => hsel j oj cs b hoj) hQ hy (H.2 j (ready_mono hj hji)))
    · refine hfree m om hm hmi ?_ hnm
      by_cases hjm : j = m
      · rw [← hjm]; exact hjun
      · rw [getD_set_ne true hjm] at hun; exact hun
    · rw [Array.setIfInBounds_comm _ _ hji]
      exact k.2.2

theorem anyL_take {i : Nat} {oi : Oper} {v : Value} {n : Nat} {l : Array Bool} {a : Act} {w : World} (hi : ops[i]? = some oi)
    (hs : Region.noSelect ops = true) (hf : Region.free md ops l i = true) (hr : (Region.ready md ops l).contains i = true) (hst : waits md ops st i = true)
    (hQ : ∀ c a w, Q (.panic c) (a.put oi.dst v) w → Q (.panic c) a w) (hy : YieldsIf P ops S oi v a) (hS : S w)
    (h : anyL P md ops Q S st n (l.setIfInBounds i true) (a.put oi.dst v) w) : anyL P md ops Q S st (n + 1) l a w :=
  anyL_first hi (Region.noSelect_spec hs) hQ hst n l a w (Region.free_spec hi hf) (by simpa using hr) hy hS h

/-- One alone may come up. -/
theorem anyL_one {i : Nat} {o : Oper} {n : Nat} {l : Array Bool} {a : Act} {w : World} (hr : Region.ready md ops l = [i]) (ho : ops[i]? = some o)
    (h : ∀ K : Act → World → Prop, Shut (∀ b v, (i ≠ st → S v) → anyL P md ops Q S st n (l.setIfInBounds i true) b v → K b v) → if Region.wanted o (yielded ops a.tmps) = true then Oper.wp P o a w K Q else K (a.put o.dst undef) w) :
    anyL P md ops Q S st (n + 1) l a w := by
  refine ⟨fun h0 => (by rw [hr] at h0; cases h0), fun j hj => ?_⟩
  rw [hr] at hj
  obtain rfl := List.mem_singleton.1 hj
  exact wpOp_step ho (fun K hK => h K (fun b v hS hW => hK b v ⟨hS, hW⟩))

theorem anyL_done {l : Array Bool} {a : Act} {w : World} (hr : Region.ready md ops l = []) (h : Q .normal a w) : ∀ n, anyL P md ops Q S st n l a w
  | 0 => ⟨hr, h⟩
  | _ + 1 => ⟨fun _ => h, by rw [hr]; simp⟩

theorem region_anyL (S : World → Prop) (st : Nat) {id : Nat} {a : Act} {w : World} (hm : P.follows .mixedOrders = true)
    (h : anyL P .any ops Q S st ops.size (Array.replicate ops.size false) a w.drew) : (Code.region id ops true).wp P Q a w :=
  wp_region_any hm (anyL_any _ _ _ _ h)
end


section
variable {P : Program} {ops : Array Oper} {Q : Exit → Act → World → Prop} {md : Region.Mode} {S : World → Prop} {st : Nat}

def AllL (P : Program) (md : Region.Mode) (ops : Array Oper) (Q : Exit → Act → World → Prop) (S : World → Prop) (st n : Nat) (l : Array Bool) (a : Act) (w : World) (rs : List Nat) : Prop :=
  ∀ i ∈ rs, wpOp P ops Q i (fun b v => (i ≠ st → S v) ∧ anyL P md ops Q S st n (l.setIfInBounds i true) b v) a w

theorem AllL.nil {n : Nat} {l : Array Bool} {a : Act} {w : World} : AllL P md ops Q S st n l a w [] := fun _ h => by cases h
theorem AllL.cons {n : Nat} {l : Array Bool} {a : Act} {w : World} {i : Nat} {o : Oper} {rs : List Nat} (ho : ops[i]? = some o)
    (h : ∀ K : Act → World → Prop, Shut (∀ b v, (i ≠ st → S v) → anyL P md ops Q S st n (l.setIfInBounds i true) b v → K b v) → if Region.wanted o (yielded ops a.tmps) = true then Oper.wp P o a w K Q else K (a.put o.dst undef) w)
    (hs : AllL P md ops Q S st n l a w rs) : AllL P md ops Q S st n l a w (i :: rs) := fun j hj => by
  rcases List.mem_cons.1 hj with rfl | hj
  · exact wpOp_step ho (fun K hK => h K (fun b v hS hW => hK b v ⟨hS, hW⟩))
  · exact hs j hj
theorem anyL_all {rs : List Nat} {n : Nat} {l : Array Bool} {a : Act} {w : World} (hr : Region.ready md ops l = rs) (hne : rs ≠ []) (h : AllL P md ops Q S st n l a w rs) : anyL P md ops Q S st (n + 1) l a w :=
  ⟨fun h0 => absurd (hr ▸ h0) hne, hr ▸ h⟩
end


section
variable {P : Program} {ops : Array Oper} {Q : Exit → Act → World → Prop} {md : Region.Mode} {S : World → Prop} {st : Nat}

theorem not_ready' {i : Nat} {listed : Array Bool} (hw : waits md ops st i = true) (hun : listed.getD i true = false) : st ∉ Region.ready md ops listed := by
  intro hs
  obtain ⟨_, o, ho, hall⟩ := mem_ready.1 hs
  simp only [waits, ho] at hw
  obtain ⟨e, he, hb⟩ := Array.any_eq_true'.1 hw
  simp only [Bool.and_eq_true, beq_iff_eq] at hb
  have h1 := hall e he hb.1
  rw [hb.2] at h1
  by_cases h : i < listed.size
  · simp [h] at hun h1
    rw [hun] at h1
    cases h1
  · simp [Array.getElem?_eq_none (Nat.le_of_not_lt h)] at h1

/-- The store waits for i through a chain. -/
def chainB (md : Region.Mode) (ops : Array Oper) (st : Nat) : Nat → List Nat → Bool
  | i, [] => waits md ops st i
  | i, x :: r => waits md ops x i && chainB md ops st x r

theorem chain_ok {l : Array Bool} : ∀ (ch : List Nat) (i : Nat), chainB md ops st i ch = true → l.getD i true = false → (∀ x ∈ ch, l.getD x true = false) → st ∉ Region.ready md ops l ∧ ∀ j ∈ Region.ready md ops l, j ∉ ch
  | [], _, hc, hi, _ => ⟨not_ready' hc hi, fun _ _ h => by cases h⟩
  | x :: r, i, hc, hi, hx => by
    unfold chainB at hc
    rw [Bool.and_eq_true] at hc
    have h1 : x ∉ Region.ready md ops l := not_ready' hc.1 hi
    obtain ⟨h2, h3⟩ := chain_ok r x hc.2 (hx x (List.mem_cons_self ..)) (fun y hy => hx y (List.mem_cons_of_mem _ hy))
    refine ⟨h2, fun j hj hm => ?_⟩
    rcases List.mem_cons.1 hm with rfl | hm
    · exact h1 hj
    · exact h3 j hj hm

theorem anyL_firstC {i : Nat} {oi : Oper} {v : Value} (ch : List Nat) (hi : ops[i]? = some oi) (hsel : ∀ (j : Nat) (o : Oper) cs b, ops[j]? = some o → o.op ≠ .select cs b)
    (hQ : ∀ c a w, Q (.panic c) (a.put oi.dst v) w → Q (.panic c) a w) (hst : chainB md ops st i ch = true) (n : Nat) :
    ∀ (l : Array Bool) (a : Act) (w : World), (∀ x ∈ ch, l.getD x true = false) →
      (∀ j oj, ops[j]? = some oj → j ≠ i → l.getD j true = false → (∀ e ∈ oj.after, Region.binds md e = true → e.on ≠ i) → oi.apart ops oj = true) →
      i ∈ Region.ready md ops l → YieldsIf P ops S oi v a → S w → anyL P md ops Q S st n (l.setIfInBounds i true) (a.put oi.dst v) w → anyL P md ops Q S st (n + 1) l a w := by
  induction n with
  | zero =>
    intro l a w _ _ hr hy hS H
    refine ⟨fun h => (by rw [h] at hr; cases hr), fun j hj => ?_⟩
    by_cases hji : j = i
    · rw [hji]; exact hy.wpOp hi hS ⟨fun _ => hS, H⟩
    · have := ready_mono hj hji
      rw [H.1] at this
      cases this
  | succ n ih =>
    intro l a w hN hfree hr hy hS H
    refine ⟨fun h => (by rw [h] at hr; cases hr), fun j hj => ?_⟩
    by_cases hji : j = i
    · rw [hji]; exact hy.wpOp hi hS ⟨fun _ => hS, H⟩
    obtain ⟨hsr, hch⟩ := chain_ok ch i hst (mem_ready.1 hr).1 hN
    have hjst : j ≠ st := fun h => hsr (h ▸ hj)
    obtain ⟨hjun, oj, hoj, hall⟩ := mem_ready.1 hj
    have hiun := (mem_ready.1 hr).1
    have hno : ∀ e ∈ oj.after, Region.binds md e = true → e.on ≠ i := fun e he hb heq => by
      have h1 := hall e he hb
      rw [heq] at h1
      by_cases h : i < l.size
      · simp [h] at hiun h1
        rw [hiun] at h1
        cases h1
      · simp [Array.getElem?_eq_none (Nat.le_of_not_lt h)] at h1
    refine wpOp_mono (fun b u k => ⟨fun _ => k.2.1 hjst, ih _ b u (fun x hx => ?_) (fun m om hm hmi hun hnm => ?_) (ready_mono hr (Ne.symm hji)) k.1 (k.2.1 hjst) ?_⟩)
      (wpOp_putIf hoj (hfree j oj hoj hji hjun hno) (fun cs b => hsel i oi cs b hi) (fun cs b => hsel j oj cs b hoj) hQ hy (H.2 j (ready_mono hj hji)))
    · rw [getD_set_ne true (show j ≠ x from fun h => by subst h; exact hch j hj hx)]
      exact hN x hx
    · refine hfree m om hm hmi ?_ hnm
      by_cases hjm : j = m
      · rw [← hjm]; exact hjun
      · rw [getD_set_ne true hjm] at hun; exact hun
    · rw [Array.setIfInBounds_comm _ _ hji]
      exact k.2.2

theorem anyL_takeC (ch : List Nat) {i : Nat} {oi : Oper} {v : Value} {n : Nat} {l : Array Bool} {a : Act} {w : World} (hi : ops[i]? = some oi)
    (hs : Region.noSelect ops = true) (hf : Region.free md ops l i = true) (hr : (Region.ready md ops l).contains i = true) (hst : chainB md ops st i ch = true) (hN : ch.all (fun x => l.getD x true == false) = true)
    (hQ : ∀ c a w, Q (.panic c) (a.put oi.dst v) w → Q (.panic c) a w) (hy : YieldsIf P ops S oi v a) (hS : S w)
    (h : anyL P md ops Q S st n (l.setIfInBounds i true) (a.put oi.dst v) w) : anyL P md ops Q S st (n + 1) l a w :=
  anyL_firstC ch hi (Region.noSelect_spec hs) hQ hst n l a w (fun x hx => by have := List.all_eq_true.1 hN x hx; simpa using this) (Region.free_spec hi hf) (by simpa using hr) hy hS h
end

end Go.Proofs.Ytnbndhmdfheikaa
