/- From the arguments of a law to plain data, and from the walk to the row: what all laws of this seat share. -/
import Derived.Test.YtkklghdmnkdofaaK2
import Derived.ProofKit
import Derived.OpenShut
import Derived.Lib.SmallJoins
import Derived.Deep.Strs
import Derived.Deep.Fields
namespace Go.Proofs.Ytkklghdmnkdofaa
open Go.ChangeShapes Go.WideShapes Go.ChangeAt Go.RowKit Go.Joins Go.Deep

theorem own : ownKnob Try.prog.godebug = none := by kernel_rfl
theorem laidOut : laidOutB Try.prog = true := by kernel_rfl

section
variable {H : Type} {enc : TypeId × Value → H}

/-- Arguments below the old heap read as they did. -/
theorem trodAll_below {P : Program} (hl : laidOutB P = true) {W W' : World} (hb : Below W.heap.size W W') : ∀ (ts : List TypeId) (vs : List Value) (ds : List (DataW H)) (ps : List MemPlace),
    (∀ t ∈ ts, P.readableRec t = true ∧ t < P.types.size) → DataW.TrodAll enc P W 0 (fun _ => true) true ts vs ds ps → (∀ x ∈ ps, x.block < W.heap.size) →
    DataW.TrodAll enc P W' 0 (fun b => decide (b < W.heap.size)) true ts vs ds ps
  | [], [], [], _, _, h, _ => h
  | t :: ts, v :: vs, d :: ds, ps, hr, h, hlt => by
    obtain ⟨p, q, h1, h2, rfl⟩ := h
    exact ⟨p, q, Below.trod hl (hr t (List.mem_cons_self ..)).1 (hr t (List.mem_cons_self ..)).2 h1 hb (fun x hx => hlt x (List.mem_append_left _ hx)),
      trodAll_below hl hb ts vs ds q (fun t' ht => hr t' (List.mem_cons_of_mem _ ht)) h2 (fun x hx => hlt x (List.mem_append_right _ hx)), rfl⟩
  | [], _ :: _, _, _, _, h, _ => h.elim
  | [], [], _ :: _, _, _, h, _ => h.elim
  | _ :: _, [], _, _, _, h, _ => h.elim
  | _ :: _, _ :: _, [], _, _, h, _ => h.elim

/-- A law's end: it answered true, and nothing that was there has turned. -/
theorem law_post {P : Program} {f : Func} {s : ChangeSpec} {W W' : World} {args : Array Value} {ds gs : List (DataW H)} {before : List MemPlace} (hl : laidOutB P = true) {b : TypeId} (hbool : P.underlying b = some .bool)
    (hW : DataW.Whole enc P f.params.toList s.vars false W args.toList ds gs before) (hres : f.resultTypes = #[b]) (hts : ∀ t ∈ f.params.toList, P.readableRec t = true ∧ t < P.types.size) (hvars : s.vars = [])
    (hfn : s.fn H ds = { results := [.lit (.bool true)], args := ds }) (hb : Below W.heap.size W W') :
    s.post enc P f false true false false W args (.bool true) W' := by
  have hlt : ∀ p ∈ before, p.block < W.heap.size := fun p hp => hW.lt p hp
  have hW' := hW
  obtain ⟨p, q, hA, hV, hps, hz, hn⟩ := hW
  rw [hvars] at hV
  obtain ⟨rfl, rfl⟩ := trodVars_none hV
  have e : ds ++ [] = ds := List.append_nil ds
  refine ⟨ds, [], before, [], p, [], hW', ?_, ?_, ?_, hb.frame _, fun h => by cases h⟩
  · rw [e, hfn, hres]
    exact trodAll_cons_mk (shut_bool hbool true) trodAll_mk0
  · rw [e, hfn]
    exact trodAll_below hl hb _ _ _ _ hts hA (fun x hx => hlt x (by rw [hps]; exact List.mem_append_left _ hx))
  · rw [e, hfn, hvars]
    exact rfl

theorem fields24 : ∃ a b c, Try.prog.underlying 24 = some (.struct #[a, b, c]) ∧ oneCellFields Try.prog #[a, b, c] = true ∧ a.type = 22 ∧ b.type = 3 ∧ c.type = 3 := by
  refine ⟨_, _, _, Try.underlying24, by kernel_rfl, rfl, rfl, rfl⟩
theorem cells24 : Try.prog.cellsOf 24 = 3 := by kernel_rfl
theorem cells26 : Try.prog.cellsOf 26 = 4 := by kernel_rfl
theorem cells9 : Try.prog.cellsOf 9 = 1 := by kernel_rfl
theorem fields26' : ∃ a b c d, Try.prog.underlying 26 = some (.struct #[a, b, c, d]) ∧ oneCellFields Try.prog #[a, b, c, d] = true ∧ a.type = 3 ∧ b.type = 3 ∧ c.type = 3 ∧ d.type = 9 := by
  refine ⟨_, _, _, _, Try.underlying26, by kernel_rfl, rfl, rfl, rfl, rfl⟩

/-- An end that came in. -/
theorem open_side {W : World} {r : Reach} {b0 : Nat} {v : Value} {d : DataW H} {p : List MemPlace} (hv : Value.okWide Try.prog W r b0 24 v) (h : DataW.Trod enc Try.prog W 0 (fun _ => true) true 24 v d p) :
    ∃ A n c s, v = sideVal (.slice A n c) s ∧ s.sent.length = n ∧ n ≤ maxLen ∧ Rd W W.heap.size 1 A n (s.sent.map Value.string) := by
  obtain ⟨a, b, c, hs, hone, ta, tb, tc⟩ := fields24
  obtain ⟨v0, v1, v2, y0, y1, y2, m, rfl, _, _, h0, h1, h2⟩ := open_agg3 hs hone cells24 hv h
  rw [ta] at h0
  rw [tb] at h1
  rw [tc] at h2
  obtain ⟨x1, e1, _, _⟩ := DataW.trod_int Try.underlying3 h1
  obtain ⟨x2, e2, _, _⟩ := DataW.trod_int Try.underlying3 h2
  simp only [List.cons.injEq, and_true] at e1 e2
  subst e1 e2
  rcases open_strs Try.underlying22 Try.underlying9 cells9 h0 with ⟨e0, _⟩ | ⟨ad, len, cap, k, Sx, e0, _, hl, hm, hk, _, hc⟩
  · simp only [List.cons.injEq, and_true] at e0
    subst e0
    exact ⟨none, 0, 0, ⟨[], x1, x2⟩, rfl, rfl, Nat.zero_le _, Rd.nil _ _ _ _⟩
  · simp only [List.cons.injEq, and_true] at e0
    subst e0
    have hk' : k = cap := by simpa using hk
    subst hk'
    refine ⟨some ad, len, k, ⟨(List.range len).map Sx, x1, x2⟩, rfl, by simp, Nat.le_trans hl hm, by simp, fun hpos => ⟨ad, rfl, ?_, fun j u hu => ?_⟩⟩
    · have := World.block_lt_of_cell? W _ (hc 0 (by omega)).1
      rwa [add_block] at this
    · have hj : j < len := by
        have := (List.getElem?_eq_some_iff.1 hu).1
        simpa using this
      have hS : (((List.range len).map Sx).map Value.string)[j]? = some (.string (Sx j)) := by simp [hj]
      rw [hS] at hu
      rw [(hc j (by omega)).1]
      exact hu

/-- A frame that came in. -/
theorem open_frame {W : World} {r : Reach} {b0 : Nat} {v : Value} {d : DataW H} {p : List MemPlace} (hv : Value.okWide Try.prog W r b0 26 v) (h : DataW.Trod enc Try.prog W 0 (fun _ => true) true 26 v d p) : ∃ f : Fr, v = f.val := by
  obtain ⟨a, b, c, e, hs, hone, ta, tb, tc, te⟩ := fields26'
  obtain ⟨v0, v1, v2, v3, y0, y1, y2, y3, m, rfl, _, _, h0, h1, h2, h3⟩ := open_agg4 hs hone cells26 hv h
  rw [ta] at h0
  rw [tb] at h1
  rw [tc] at h2
  rw [te] at h3
  obtain ⟨x0, e0, _, _⟩ := DataW.trod_int Try.underlying3 h0
  obtain ⟨x1, e1, _, _⟩ := DataW.trod_int Try.underlying3 h1
  obtain ⟨x2, e2, _, _⟩ := DataW.trod_int Try.underlying3 h2
  obtain ⟨x3, e3, _, _⟩ := DataW.trod_string Try.underlying9 h3
  simp only [List.cons.injEq, and_true] at e0 e1 e2 e3
  subst e0 e1 e2 e3
  exact ⟨⟨x0, x1, x2, x3⟩, rfl⟩
end

end Go.Proofs.Ytkklghdmnkdofaa
