/- bulwarklaw13.BookGoods: for every list of positions, every list of orders and every two bounds the call returns true, and all read afterwards as they read before. No condition. -/
import Derived.Test.YtiapbgbbeakoiaaPG4
import Derived.Test.YtiapbgbbeakoiaaOG4
import Derived.Test.YtiapbgbbeakoiaaD2
namespace Go.Proofs.Ytiapbgbbeakoiaa
open Go.ChangeShapes Go.WideShapes Go.ChangeAt Go.RowKit Go.Joins Go.Deep

set_option maxHeartbeats 4000000 in
set_option maxRecDepth 100000 in
theorem goods_walk (A B : Option Addr) (n c m d : Nat) (av : List P.Lc) (l : List O.Lc) (ac nc : Int) (w : World) (hn : n ≤ maxLen) (hm : m ≤ maxLen) (hra : Rd w w.heap.size 3 A n (P.lcs av)) (hrl : Rd w w.heap.size 5 B m (O.lcs l)) :
    Calls Try.prog 6 #[.slice A n c, .slice B m d, .agg #[.int .i64 ac, .int .i64 nc]] w fun e w' => e = .returned (.bool true) ∧ Below w.heap.size w w' := by
  obtain ⟨W, hW⟩ : ∃ W, W = w.alloc (.cells #[.int .i64 ac, .int .i64 nc] 23) := ⟨_, rfl⟩
  obtain ⟨bx, hbx⟩ : ∃ bx, bx = w.heap.size := ⟨_, rfl⟩
  have HBX : Hid (Bk W bx 23 #[.int .i64 ac, .int .i64 nc]) := by rw [hW, hbx]; exact Bk.new _ _ _
  have HWW : Hid (Below w.heap.size w W) := by rw [hW]; exact (Below.refl _ w).alloc (Nat.le_refl _) _
  have HRA : Hid (∀ V, Below W.heap.size W V → Rd V V.heap.size 3 A n (P.lcs av)) := fun V h => ((hra.below HWW.out).mono HWW.out.size |>.below h).mono h.size
  have HRL : Hid (∀ V, Below W.heap.size W V → Rd V V.heap.size 5 B m (O.lcs l)) := fun V h => ((hrl.below HWW.out).mono HWW.out.size |>.below h).mono h.size
  have HFIN : Hid (∀ V, Below W.heap.size W V → Below w.heap.size w V) := fun V h => HWW.out.trans (h.mono HWW.out.size)
  obtain ⟨g, hg⟩ : ∃ g, g = P.goodB ac nc av := ⟨_, rfl⟩
  obtain ⟨o, ho⟩ : ∃ o, o = O.goodB ac nc l := ⟨_, rfl⟩
  have HG1 : Hid (∀ V, Below W.heap.size W V → Calls Try.prog 21 #[.slice A n c, .int .i64 ac, .int .i64 nc] V fun e w' => e = .returned (.bool g) ∧ Below V.heap.size V w') := fun V h => by rw [hg]; exact P.good_any A n c av ac nc V hn (HRA.out V h)
  have HG2 : Hid (∀ V, Below W.heap.size W V → Calls Try.prog 22 #[.slice A n c, .int .i64 ac, .int .i64 nc] V fun e w' => e = .returned (.bool g) ∧ Below V.heap.size V w') := fun V h => by rw [hg]; exact P.rgood_any A n c av ac nc V hn (HRA.out V h)
  have HG3 : Hid (∀ V, Below W.heap.size W V → Calls Try.prog 23 #[.slice B m d, .int .i64 ac, .int .i64 nc] V fun e w' => e = .returned (.bool o) ∧ Below V.heap.size V w') := fun V h => by rw [ho]; exact O.good_any B m d l ac nc V hm (HRL.out V h)
  have HG4 : Hid (∀ V, Below W.heap.size W V → Calls Try.prog 24 #[.slice B m d, .int .i64 ac, .int .i64 nc] V fun e w' => e = .returned (.bool o) ∧ Below V.heap.size V w') := fun V h => by rw [ho]; exact O.rgood_any B m d l ac nc V hm (HRL.out V h)
  have HWK : Hid (∀ V, Calls Try.prog 9 #[] V fun e w' => e = .returned (.bool true) ∧ Below V.heap.size V w') := fun V => wakes_any V
  have HS : Hid (∀ V, Below W.heap.size W V → (fun V => Below W.heap.size W V ∧ V.cell? ⟨bx, 0, none⟩ = some (.int .i64 ac) ∧ V.cell? ⟨bx, 1, none⟩ = some (.int .i64 nc)) V) := fun V hV => by
    have hb := HBX.out.below hV HBX.out.lt
    exact ⟨hV, hb.cell 0, hb.cell 1⟩
  clear hra hrl hg ho
  go_enter Try.func6, Try.ntmps6
  go_upto_region 1 with (fail)
  rw [← hW, ← hbx]
  clear hW hbx
  go_region_held (fun V => Below W.heap.size W V ∧ V.cell? ⟨bx, 0, none⟩ = some (.int .i64 ac) ∧ V.cell? ⟨bx, 1, none⟩ = some (.int .i64 nc))
    (first
      | with_reducible assumption
      | (refine HS.out _ ?_; first | with_reducible exact HW2.out | with_reducible exact (Below.refl _ _).drew))
    (first
      | (go_at_call 9; obtain ⟨hB, -⟩ := ‹Below W.heap.size W _ ∧ _›; refine (HWK.out _).mono ?_; rintro e wq ⟨rfl, hbq⟩; have HW2 : Hid (Below W.heap.size W wq) := hB.trans (hbq.mono hB.size); clear hB hbq)
      | (go_at_call 21; obtain ⟨hB, -⟩ := ‹Below W.heap.size W _ ∧ _›; refine (HG1.out _ hB).mono ?_; rintro e wq ⟨rfl, hbq⟩; have HW2 : Hid (Below W.heap.size W wq) := hB.trans (hbq.mono hB.size); clear hB hbq)
      | (go_at_call 22; obtain ⟨hB, -⟩ := ‹Below W.heap.size W _ ∧ _›; refine (HG2.out _ hB).mono ?_; rintro e wq ⟨rfl, hbq⟩; have HW2 : Hid (Below W.heap.size W wq) := hB.trans (hbq.mono hB.size); clear hB hbq)
      | (go_at_call 23; obtain ⟨hB, -⟩ := ‹Below W.heap.size W _ ∧ _›; refine (HG3.out _ hB).mono ?_; rintro e wq ⟨rfl, hbq⟩; have HW2 : Hid (Below W.heap.size W wq) := hB.trans (hbq.mono hB.size); clear hB hbq)
      | (go_at_call 24; obtain ⟨hB, -⟩ := ‹Below W.heap.size W _ ∧ _›; refine (HG4.out _ hB).mono ?_; rintro e wq ⟨rfl, hbq⟩; have HW2 : Hid (Below W.heap.size W wq) := hB.trans (hbq.mono hB.size); clear hB hbq))
  all_goals
    go_wp2
    go_ret
    first
      | exact ⟨rfl, HFIN.out _ HW2.out⟩
      | (refine ⟨?_, HFIN.out _ HW2.out⟩; simp)

set_option maxRecDepth 100000 in
theorem goods_lifted (os : Os) (started : os.Started) (H : Type) (enc : TypeId × Value → H) :
    ReturnsInHanded {} Try.checked os 6 .any (Rows.bookGoodsSpec.pre6 enc Try.prog Try.f6 Rows.bookGoodsRow.domain false) (Rows.bookGoodsSpec.post enc Try.prog Try.f6 false true false false) := by
  refine returnsInHanded_of_change_sized (C := Try.checked) own started (by kernel_rfl) Try.func6
    (ChangeSpec.witness6 (enc := enc) (C := Try.checked) false ⟨#[], #[.slice none 0 0, .slice none 0 0, .agg #[.int .i64 0, .int .i64 0]], []⟩ 6 (by kernel_rfl) (by kernel_rfl) (by kernel_rfl) (by kernel_rfl)) ?_
  intro W base args ds gs before hval0 hW hcnd hsz0 _
  have hval : ∀ (j : Nat) t v, Try.f6.params[j]? = some t → args[j]? = some v → Value.okWide Try.prog W .any base t v := hval0
  have hsz : (DataW.weightsEach Try.prog (Try.f6.params.toList ++ Rows.bookGoodsSpec.plain.varTypes Try.prog) (ds ++ gs)).all (· ≤ reachBytes) = true := hsz0
  have hW' := hW
  obtain ⟨p, q, hA0, hV, rfl, hfz, hnd⟩ := hW
  have hA : DataW.TrodAll enc Try.prog W 0 (fun _ => true) true Try.f6.params.toList args.toList ds p := hA0
  rw [Try.params6] at hA hval hsz
  obtain ⟨v0, vs0, d0, ds0, p0, q0, hargs, rfl, rfl, h0, r0⟩ := trodAll_cons hA
  obtain ⟨v1, vs1, d1, ds1, p1, q1, rfl, rfl, rfl, h1, r1⟩ := trodAll_cons r0
  obtain ⟨v2, vs2, d2, ds2, p2, q2, rfl, rfl, rfl, h2, r2⟩ := trodAll_cons r1
  obtain ⟨rfl, rfl, rfl⟩ := trodAll_nil r2
  obtain rfl : args = #[v0, v1, v2] := by cases args; simp_all
  obtain ⟨A, n, c, av, rfl, hn, hra⟩ := P.open_locs (hval 0 22 v0 rfl rfl) h0
  obtain ⟨B, m, d, l, rfl, hm, hrl⟩ := O.open_locs (hval 1 32 v1 rfl rfl) h1
  obtain ⟨x, y, rfl⟩ := open_two (hval 2 23 v2 rfl rfl) h2
  refine (goods_walk A B n c m d av l x y W hn hm hra hrl).mono fun e W' ⟨he, hb⟩ => ?_
  exact ⟨_, he, law_post laidOut Try.underlying4 hW' rfl (by rw [Try.params6]; intro t ht; simp at ht; rcases ht with rfl | rfl | rfl <;> exact ⟨by kernel_rfl, of_decide_eq_true (by kernel_rfl)⟩) rfl rfl hb⟩

theorem goods_holds : Rows.BookGoodsSaid :=
  OpenClaim.holds_of_wide 6 Try.f6 rfl rfl rfl rfl rfl rfl rfl ⟨rfl, rfl, rfl, rfl, rfl⟩ rfl rfl rfl rfl rfl (by kernel_rfl) Try.func6 (by kernel_rfl)
    (of_decide_eq_true (by kernel_rfl)) (by unfold Func.isWrapper; first | (rw [if_pos (by decide +kernel)]; kernel_rfl) | (rw [if_neg (by decide +kernel)]; exact ⟨rfl, rfl⟩))
    (fun os started H enc _ => goods_lifted os started H enc)
#print axioms goods_holds

end Go.Proofs.Ytiapbgbbeakoiaa
