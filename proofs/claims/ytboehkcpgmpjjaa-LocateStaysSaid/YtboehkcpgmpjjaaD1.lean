/- From the arguments of a law to plain data, and from the walk to the row: what all laws of this seat share. -/
import Derived.Test.YtboehkcpgmpjjaaC8
import Derived.Test.YtboehkcpgmpjjaaRows
import Derived.Test.YtboehkcpgmpjjaaChecked
import Derived.ProofKit
import Derived.OpenShut
import Derived.Lib.SmallJoins
import Derived.Deep.Strs
import Derived.Deep.Fields
namespace Go.Proofs.Ytboehkcpgmpjjaa
open Go.ChangeShapes Go.WideShapes Go.ChangeAt Go.RowKit Go.Joins Go.Deep

theorem own : ownKnob Try.prog.godebug = none := by kernel_rfl
theorem laidOut : laidOutB Try.prog = true := by kernel_rfl

section
variable {H : Type} {enc : TypeId × Value → H}

/-- Arguments below the old heap read as they did. -/
theorem trodAll_below {P : Program} (hl : laidOutB P = true) {W W' : World} (hb : Below W.heap.size W W') : ∀ (ts : List TypeId) (vs : List Value) (ds : List (DataW H)) (ps : List MemPlace),
    (∀ t ∈ ts, P.readableRec t = true ∧ t < P.types.size) → DataW.TrodAll enc P W 0 (fun _ => true) true ts vs ds ps → (∀ x ∈ ps, x.block < W.heap.size) →
    DataW.TrodAll enc P W' 0 (fun b => decide (b < W.heap.size)) true ts vs ds ps
  | [], [], [], _, _, h, _ => h
  | t :: ts, v :: vs, d :: ds, ps, hr, h, hlt => by
    obtain ⟨p, q, h1, h2, rfl⟩ := h
    exact ⟨p, q, Below.trod hl (hr t (List.mem_cons_self ..)).1 (hr t (List.mem_cons_self ..)).2 h1 hb (fun x hx => hlt x (List.mem_append_left _ hx)),
      trodAll_below hl hb ts vs ds q (fun t' ht => hr t' (List.mem_cons_of_mem _ ht)) h2 (fun x hx => hlt x (List.mem_append_right _ hx)), rfl⟩
  | [], _ :: _, _, _, _, h, _ => h.elim
  | [], [], _ :: _, _, _, h, _ => h.elim
  | _ :: _, [], _, _, _, h, _ => h.elim
  | _ :: _, _ :: _, [], _, _, h, _ => h.elim

/-- A law's end: it answered true, and nothing that was there has turned. -/
theorem law_post {P : Program} {f : Func} {s : ChangeSpec} {W W' : World} {args : Array Value} {ds gs : List (DataW H)} {before : List MemPlace} (hl : laidOutB P = true) {b : TypeId} (hbool : P.underlying b = some .bool)
    (hW : DataW.Whole enc P f.params.toList s.vars false W args.toList ds gs before) (hres : f.resultTypes = #[b]) (hts : ∀ t ∈ f.params.toList, P.readableRec t = true ∧ t < P.types.size) (hvars : s.vars = [])
    (hfn : s.fn H ds = { results := [.lit (.bool true)], args := ds }) (hb : Below W.heap.size W W') :
    s.post enc P f false true false false W args (.bool true) W' := by
  have hlt : ∀ p ∈ before, p.block < W.heap.size := fun p hp => hW.lt p hp
  have hW' := hW
  obtain ⟨p, q, hA, hV, hps, hz, hn⟩ := hW
  rw [hvars] at hV
  obtain ⟨rfl, rfl⟩ := trodVars_none hV
  have e : ds ++ [] = ds := List.append_nil ds
  refine ⟨ds, [], before, [], p, [], hW', ?_, ?_, ?_, hb.frame _, fun h => by cases h⟩
  · rw [e, hfn, hres]
    exact trodAll_cons_mk (shut_bool hbool true) trodAll_mk0
  · rw [e, hfn]
    exact trodAll_below hl hb _ _ _ _ hts hA (fun x hx => hlt x (by rw [hps]; exact List.mem_append_left _ hx))
  · rw [e, hfn, hvars]
    exact rfl

end

theorem wake_one : reserveS [10] [] 2 0 4 = ([6], [⟨2, 0, 4⟩], 0) := by decide
theorem wake_two : reserveS [6] [⟨2, 0, 4⟩] 2 0 7 = ([], [], 39) := by decide

set_option maxHeartbeats 1000000 in
theorem wakes_any (w : World) : Calls Try.prog 8 #[] w fun e w' => e = .returned (.bool true) ∧ Below w.heap.size w w' := by
  obtain ⟨W, hW⟩ : ∃ W, W = w.alloc (.cells #[.int .i64 10] 3) := ⟨_, rfl⟩
  have hB : Bk W w.heap.size 3 #[.int .i64 10] := by rw [hW]; exact Bk.new _ _ _
  have hbl : Below w.heap.size w W := by rw [hW]; exact (Below.refl _ w).alloc (Nat.le_refl _) _
  have hra : Rd W W.heap.size 1 (some ⟨w.heap.size, 0, none⟩) 1 (ints [10]) := ⟨rfl, fun _ => ⟨_, rfl, hB.lt, World.news_of_block hB⟩⟩
  have h1 := reserve_any (some ⟨w.heap.size, 0, none⟩) none 1 1 0 0 [10] [] 2 0 4 W (by decide) (by decide) (by omega) (by omega) hra (Rd.nil _ _ _ _)
  rw [wake_one] at h1
  have H1 := Lib.hid h1
  have HBL := Lib.hid hbl
  clear h1 hra hB hbl
  go_enter Try.func8, Try.ntmps8
  go_wp2_with fail
  rw [← hW]
  clear hW
  refine H1.out.mono ?_
  rintro e w1 ⟨A, c, B, d, rfl, hc, hc2, hd, hd2, ho1, ho2, hb1⟩
  dsimp only at hc hd ho1 ho2
  have h2 := reserve_any A B 1 c 1 d [6] [⟨2, 0, 4⟩] 2 0 7 w1 (by decide) (by decide) (by omega) (by omega) (Rd.of_own ho1) (Rd.of_own ho2)
  rw [wake_two] at h2
  have H2 := Lib.hid h2
  have HO1 := Lib.hid ho1
  have HO2 := Lib.hid ho2
  have HB1 := Lib.hid hb1
  clear h2 ho1 ho2 hb1
  go_wp2_with fail
  refine H2.out.mono ?_
  rintro e w2 ⟨A2, c2, B2, d2, rfl, _, _, _, _, _, _, hb2⟩
  have hR1 : Rd w2 w1.heap.size 1 A 1 (ints [6]) := (Rd.of_own HO1.out).below hb2
  have hR2 : Rd w2 w1.heap.size 3 B 1 (lcs [⟨2, 0, 4⟩]) := (Rd.of_own HO2.out).below hb2
  obtain ⟨a, rfl, _, c0⟩ := hR1.int (k := 0) (by decide)
  obtain ⟨b, rfl, _, d0, d1, d2⟩ := hR2.loc (k := 0) (by decide)
  have HB2 := Lib.hid hb2
  clear hR1 hR2 hb2
  simp only [Nat.zero_mul, List.getElem_cons_zero] at c0 d0 d1 d2
  have e0 : a.add 0 = a := rfl
  have e1 : b.add 0 = b := rfl
  rw [e0] at c0
  rw [e1] at d0 d1 d2
  have hsh : Calls Try.prog 18 #[.int .i64 3, .int .i64 2, .int .i64 (-4)] w2 fun e w' => e = .returned (.int .i64 3) ∧ w' = w2 := short_any 3 2 (-4) w2 (by omega) (by omega) (by omega)
  have HSH := Lib.hid hsh
  clear hsh
  go_wp2_with fail
  refine HSH.out.mono ?_
  rintro e w' ⟨rfl, rfl⟩
  go_wp2
  go_ret
  exact ⟨rfl, HBL.out.trans ((HB1.out.trans (HB2.out.mono HB1.out.size)).mono HBL.out.size)⟩

end Go.Proofs.Ytboehkcpgmpjjaa
