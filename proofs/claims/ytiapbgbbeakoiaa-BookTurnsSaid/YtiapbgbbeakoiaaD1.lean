/- From the arguments of a law to plain data, and from the walk to the row: what all laws of this seat share. -/
import Derived.Test.YtiapbgbbeakoiaaPV
import Derived.Test.YtiapbgbbeakoiaaOX
import Derived.Test.YtiapbgbbeakoiaaRows
import Derived.Test.YtiapbgbbeakoiaaChecked
import Derived.ProofKit
import Derived.OpenShut
import Derived.Lib.SmallJoins
import Derived.Deep.Strs
import Derived.Deep.Fields
namespace Go.Proofs.Ytiapbgbbeakoiaa
open Go.ChangeShapes Go.WideShapes Go.ChangeAt Go.RowKit Go.Joins Go.Deep

theorem own : ownKnob Try.prog.godebug = none := by kernel_rfl
theorem laidOut : laidOutB Try.prog = true := by kernel_rfl

section
variable {H : Type} {enc : TypeId × Value → H}

/-- Arguments below the old heap read as they did. -/
theorem trodAll_below {P : Program} (hl : laidOutB P = true) {W W' : World} (hb : Below W.heap.size W W') : ∀ (ts : List TypeId) (vs : List Value) (ds : List (DataW H)) (ps : List MemPlace),
    (∀ t ∈ ts, P.readableRec t = true ∧ t < P.types.size) → DataW.TrodAll enc P W 0 (fun _ => true) true ts vs ds ps → (∀ x ∈ ps, x.block < W.heap.size) →
    DataW.TrodAll enc P W' 0 (fun b => decide (b < W.heap.size)) true ts vs ds ps
  | [], [], [], _, _, h, _ => h
  | t :: ts, v :: vs, d :: ds, ps, hr, h, hlt => by
    obtain ⟨p, q, h1, h2, rfl⟩ := h
    exact ⟨p, q, Below.trod hl (hr t (List.mem_cons_self ..)).1 (hr t (List.mem_cons_self ..)).2 h1 hb (fun x hx => hlt x (List.mem_append_left _ hx)),
      trodAll_below hl hb ts vs ds q (fun t' ht => hr t' (List.mem_cons_of_mem _ ht)) h2 (fun x hx => hlt x (List.mem_append_right _ hx)), rfl⟩
  | [], _ :: _, _, _, _, h, _ => h.elim
  | [], [], _ :: _, _, _, h, _ => h.elim
  | _ :: _, [], _, _, _, h, _ => h.elim
  | _ :: _, _ :: _, [], _, _, h, _ => h.elim

/-- A law's end: it answered true, and nothing that was there has turned. -/
theorem law_post {P : Program} {f : Func} {s : ChangeSpec} {W W' : World} {args : Array Value} {ds gs : List (DataW H)} {before : List MemPlace} (hl : laidOutB P = true) {b : TypeId} (hbool : P.underlying b = some .bool)
    (hW : DataW.Whole enc P f.params.toList s.vars false W args.toList ds gs before) (hres : f.resultTypes = #[b]) (hts : ∀ t ∈ f.params.toList, P.readableRec t = true ∧ t < P.types.size) (hvars : s.vars = [])
    (hfn : s.fn H ds = { results := [.lit (.bool true)], args := ds }) (hb : Below W.heap.size W W') :
    s.post enc P f false true false false W args (.bool true) W' := by
  have hlt : ∀ p ∈ before, p.block < W.heap.size := fun p hp => hW.lt p hp
  have hW' := hW
  obtain ⟨p, q, hA, hV, hps, hz, hn⟩ := hW
  rw [hvars] at hV
  obtain ⟨rfl, rfl⟩ := trodVars_none hV
  have e : ds ++ [] = ds := List.append_nil ds
  refine ⟨ds, [], before, [], p, [], hW', ?_, ?_, ?_, hb.frame _, fun h => by cases h⟩
  · rw [e, hfn, hres]
    exact trodAll_cons_mk (shut_bool hbool true) trodAll_mk0
  · rw [e, hfn]
    exact trodAll_below hl hb _ _ _ _ hts hA (fun x hx => hlt x (by rw [hps]; exact List.mem_append_left _ hx))
  · rw [e, hfn, hvars]
    exact rfl

end

theorem wake_one : P.addL [⟨2, 0, -5⟩] 2 0 5 = ([], 0) := by decide
theorem wake_two : O.cutL [⟨2, 1, 0, -10, 0⟩] 2 1 3 = ([⟨2, 1, 0, -7, 0⟩], 7, 0) := by decide

set_option maxHeartbeats 1000000 in
theorem wakes_any (w : World) : Calls Try.prog 9 #[] w fun e w' => e = .returned (.bool true) ∧ Below w.heap.size w w' := by
  obtain ⟨W, hW⟩ : ∃ W, W = w.alloc (.cells #[.int .i64 2, .int .i64 0, .int .i64 (-5)] 36) := ⟨_, rfl⟩
  obtain ⟨bx, hbx⟩ : ∃ bx, bx = w.heap.size := ⟨_, rfl⟩
  have hB : Bk W bx 36 #[.int .i64 2, .int .i64 0, .int .i64 (-5)] := by rw [hW, hbx]; exact Bk.new _ _ _
  have HBL : Hid (Below w.heap.size w W) := by rw [hW]; exact (Below.refl _ w).alloc (Nat.le_refl _) _
  have h1 := P.add_any (some ⟨bx, 0, none⟩) 1 1 [⟨2, 0, -5⟩] 2 0 5 W (by decide) (by omega) ⟨rfl, fun _ => ⟨_, rfl, hB.lt, World.news_of_block hB⟩⟩
  rw [wake_one] at h1
  have H1 := Lib.hid h1
  clear h1 hB
  go_enter Try.func9, Try.ntmps9
  go_wp2_with fail
  rw [← hW, ← hbx]
  clear hW hbx
  refine H1.out.mono ?_
  rintro e w1 ⟨A, c, rfl, hc, hc2, ho1, hb1⟩
  dsimp only at hc ho1
  obtain ⟨W2, hW2⟩ : ∃ W2, W2 = w1.alloc (.cells #[.int .i64 2, .int .i64 1, .int .i64 0, .int .i64 (-10), .int .i64 0] 38) := ⟨_, rfl⟩
  obtain ⟨by', hby⟩ : ∃ by', by' = w1.heap.size := ⟨_, rfl⟩
  have hB2 : Bk W2 by' 38 #[.int .i64 2, .int .i64 1, .int .i64 0, .int .i64 (-10), .int .i64 0] := by rw [hW2, hby]; exact Bk.new _ _ _
  have HBL2 : Hid (Below W.heap.size W W2) := by rw [hW2]; exact hb1.alloc hb1.size _
  have h2 := O.cut_any (some ⟨by', 0, none⟩) 1 1 [⟨2, 1, 0, -10, 0⟩] 2 1 3 W2 (by decide) (by omega) ⟨rfl, fun _ => ⟨_, rfl, hB2.lt, World.news_of_block hB2⟩⟩
  rw [wake_two] at h2
  have H2 := Lib.hid h2
  clear h2 hB2 hb1 ho1 hc hc2
  go_wp2_with fail
  rw [← hW2, ← hby]
  clear hW2 hby
  refine H2.out.mono ?_
  rintro e w2 ⟨A2, c2, rfl, hd, hd2, ho2, hb2⟩
  dsimp only at hd ho2
  obtain ⟨b, rfl, _, d0, d1, d2, d3, d4⟩ := O.rd_loc (Rd.of_own ho2) (k := 0) (by decide)
  have HB2 := Lib.hid hb2
  clear hb2 ho2
  simp only [Nat.zero_mul, List.getElem_cons_zero] at d3
  have e1 : b.add 0 = b := rfl
  rw [e1] at d3
  clear d0 d1 d2 d4
  go_wp2
  go_ret
  exact ⟨rfl, HBL.out.trans ((HBL2.out.trans (HB2.out.mono HBL2.out.size)).mono HBL.out.size)⟩

end Go.Proofs.Ytiapbgbbeakoiaa
