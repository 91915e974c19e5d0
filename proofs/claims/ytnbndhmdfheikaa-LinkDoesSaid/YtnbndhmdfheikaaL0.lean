/- From the arguments of a law to plain data, and from the walk to the row: what all laws of this seat share. -/
import Derived.Test.YtnbndhmdfheikaaLW
import Derived.ProofKit
import Derived.OpenShut
import Derived.Lib.SmallJoins
import Derived.Deep.Strs
import Derived.Deep.Fields
namespace Go.Proofs.Ytnbndhmdfheikaa
open Go.ChangeShapes Go.WideShapes Go.ChangeAt Go.RowKit Go.Joins Go.Deep

theorem own : ownKnob Try.prog.godebug = none := by kernel_rfl
theorem laidOut : laidOutB Try.prog = true := by kernel_rfl

section
variable {H : Type} {enc : TypeId × Value → H}

/-- Arguments below the old heap read as they did. -/
theorem trodAll_below {P : Program} (hl : laidOutB P = true) {W W' : World} (hb : Below W.heap.size W W') : ∀ (ts : List TypeId) (vs : List Value) (ds : List (DataW H)) (ps : List MemPlace),
    (∀ t ∈ ts, P.readableRec t = true ∧ t < P.types.size) → DataW.TrodAll enc P W 0 (fun _ => true) true ts vs ds ps → (∀ x ∈ ps, x.block < W.heap.size) →
    DataW.TrodAll enc P W' 0 (fun b => decide (b < W.heap.size)) true ts vs ds ps
  | [], [], [], _, _, h, _ => h
  | t :: ts, v :: vs, d :: ds, ps, hr, h, hlt => by
    obtain ⟨p, q, h1, h2, rfl⟩ := h
    exact ⟨p, q, Below.trod hl (hr t (List.mem_cons_self ..)).1 (hr t (List.mem_cons_self ..)).2 h1 hb (fun x hx => hlt x (List.mem_append_left _ hx)),
      trodAll_below hl hb ts vs ds q (fun t' ht => hr t' (List.mem_cons_of_mem _ ht)) h2 (fun x hx => hlt x (List.mem_append_right _ hx)), rfl⟩
  | [], _ :: _, _, _, _, h, _ => h.elim
  | [], [], _ :: _, _, _, h, _ => h.elim
  | _ :: _, [], _, _, _, h, _ => h.elim
  | _ :: _, _ :: _, [], _, _, h, _ => h.elim

/-- A law's end: it answered true, and nothing that was there has turned. -/
theorem law_post {P : Program} {f : Func} {s : ChangeSpec} {W W' : World} {args : Array Value} {ds gs : List (DataW H)} {before : List MemPlace} (hl : laidOutB P = true) {b : TypeId} (hbool : P.underlying b = some .bool)
    (hW : DataW.Whole enc P f.params.toList s.vars false W args.toList ds gs before) (hres : f.resultTypes = #[b]) (hts : ∀ t ∈ f.params.toList, P.readableRec t = true ∧ t < P.types.size) (hvars : s.vars = [])
    (hfn : s.fn H ds = { results := [.lit (.bool true)], args := ds }) (hb : Below W.heap.size W W') :
    s.post enc P f false true false false W args (.bool true) W' := by
  have hlt : ∀ p ∈ before, p.block < W.heap.size := fun p hp => hW.lt p hp
  have hW' := hW
  obtain ⟨p, q, hA, hV, hps, hz, hn⟩ := hW
  rw [hvars] at hV
  obtain ⟨rfl, rfl⟩ := trodVars_none hV
  have e : ds ++ [] = ds := List.append_nil ds
  refine ⟨ds, [], before, [], p, [], hW', ?_, ?_, ?_, hb.frame _, fun h => by cases h⟩
  · rw [e, hfn, hres]
    exact trodAll_cons_mk (shut_bool hbool true) trodAll_mk0
  · rw [e, hfn]
    exact trodAll_below hl hb _ _ _ _ hts hA (fun x hx => hlt x (by rw [hps]; exact List.mem_append_left _ hx))
  · rw [e, hfn, hvars]
    exact rfl

theorem cells9 : Try.prog.cellsOf 9 = 1 := by kernel_rfl

/-- A list of texts that came in. -/
theorem open_list {H : Type} {enc : TypeId × Value → H} {W : World} {r : Reach} {b0 : Nat} {v : Value} {d : DataW H} {p : List MemPlace} (hv : Value.okWide Try.prog W r b0 30 v) (h : DataW.Trod enc Try.prog W 0 (fun _ => true) true 30 v d p) :
    ∃ A n c l, v = .slice A n c ∧ n ≤ maxLen ∧ Rd W W.heap.size 1 A n ((l : List ByteArray).map Value.string) := by
  obtain ⟨a0, l0, c0, rfl, _⟩ := okWide_slice Try.underlying30 hv
  obtain ⟨fuel, h⟩ := h
  rcases open_strs Try.underlying30 Try.underlying9 cells9 h with ⟨e0, _⟩ | ⟨ad, len, cap, k, Sx, e0, _, hl, hm, hk, _, hc⟩
  · simp [Value.cells] at e0
    obtain ⟨rfl, rfl, rfl⟩ := e0
    exact ⟨none, 0, 0, [], rfl, Nat.zero_le _, Rd.nil _ _ _ _⟩
  · simp [Value.cells] at e0
    obtain ⟨rfl, rfl, rfl⟩ := e0
    have hk' : k = c0 := by simpa using hk
    subst hk'
    refine ⟨some ad, l0, k, (List.range l0).map Sx, rfl, Nat.le_trans hl hm, by simp, fun hpos => ⟨ad, rfl, ?_, fun j u hu => ?_⟩⟩
    · have := World.block_lt_of_cell? W _ (hc 0 (by omega)).1
      rwa [add_block] at this
    · have hj : j < l0 := by
        have := (List.getElem?_eq_some_iff.1 hu).1
        simpa using this
      have hS : (((List.range l0).map Sx).map Value.string)[j]? = some (.string (Sx j)) := by simp [hj]
      rw [hS] at hu
      rw [(hc j (by omega)).1]
      exact hu
end

end Go.Proofs.Ytnbndhmdfheikaa
