/- Walk of BookBack. -/
import Derived.Test.YtiapbgbbeakoiaaPS2
import Derived.Test.YtiapbgbbeakoiaaPM
import Derived.Test.YtiapbgbbeakoiaaD1
namespace Go.Proofs.Ytiapbgbbeakoiaa.P
open Go.RowKit

set_option maxHeartbeats 16000000 in
set_option maxRecDepth 100000 in
theorem back_walk (B : Option Addr) (m d : Nat) (l : List Lc) (xa xi xq : Int) (w : World) (hm : m ≤ maxLen) (hrl : Rd w w.heap.size 3 B m (lcs l)) :
    Calls Try.prog 5 #[.slice B m d, .agg #[.int .i64 xa, .int .i64 xi], .int .i64 xq] w fun e w' => e = .returned (.bool true) ∧ Below w.heap.size w w' := by
  obtain ⟨W, hW⟩ : ∃ W, W = w.alloc (.cells #[.int .i64 xa, .int .i64 xi] 23) := ⟨_, rfl⟩
  obtain ⟨bx, hbx⟩ : ∃ bx, bx = w.heap.size := ⟨_, rfl⟩
  have HBX : Hid (Bk W bx 23 #[.int .i64 xa, .int .i64 xi]) := by rw [hW, hbx]; exact Bk.new _ _ _
  have HWW : Hid (Below w.heap.size w W) := by rw [hW]; exact (Below.refl _ w).alloc (Nat.le_refl _) _
  have hll : l.length = m := by have := hrl.1; rw [lcs_len] at this; omega
  have HLL := Lib.hid hll
  have HRL : Hid (∀ V, Below W.heap.size W V → Rd V V.heap.size 3 B m (lcs l)) := fun V h => ((hrl.below HWW.out).mono HWW.out.size |>.below h).mono h.size
  have HBV : Hid (∀ V, Below W.heap.size W V → Bk V bx 23 #[.int .i64 xa, .int .i64 xi]) := fun V h => HBX.out.below h HBX.out.lt
  have HFIN : Hid (∀ V, Below W.heap.size W V → Below w.heap.size w V) := fun V h => HWW.out.trans (h.mono HWW.out.size)
  obtain ⟨g, hg⟩ : ∃ g, g = goodB 16 12 l := ⟨_, rfl⟩
  have HG1 : Hid (∀ V, Below W.heap.size W V → Calls Try.prog 21 #[.slice B m d, .int .i64 16, .int .i64 12] V fun e w' => e = .returned (.bool g) ∧ Below V.heap.size V w') := fun V h => by rw [hg]; exact good_any B m d l 16 12 V hm (HRL.out V h)
  obtain ⟨rr, hrr⟩ : ∃ rr, rr = addL l xa xi xq := ⟨_, rfl⟩
  have HR1 : Hid (g = true → ∀ V, Below W.heap.size W V → Calls Try.prog 11 #[.slice B m d, .int .i64 xa, .int .i64 xi, .int .i64 xq] V (LOut V rr)) := fun h1 V hV => by
    rw [hrr]
    have h2 := h1
    rw [hg] at h2
    exact add_any B m d l xa xi xq V (good_tidy h2) (by have := ((good_iff _ _ _).1 h2).1; omega) (HRL.out V hV)
  have HGG := Lib.hid hg
  clear hg
  obtain ⟨⟨l', er⟩, hs⟩ : ∃ s, s = rr := ⟨_, rfl⟩
  rw [← hs] at HR1 hrr
  have HRR := Lib.hid hrr
  clear hs rr
  unfold maxLen at hm
  clear hll hrl hrr
  go_enter Try.func5, Try.ntmps5
  go_wp2_with fail
  rw [← hW, ← hbx]
  clear hW hbx
  refine (wakes_any W).mono ?_
  rintro e w1 ⟨rfl, hb1⟩
  have HB1 := Lib.hid hb1
  clear hb1
  go_wp2_with fail
  refine (HG1.out w1 HB1.out).mono ?_
  rintro e w2 ⟨rfl, hb2⟩
  have HB2 : Hid (Below W.heap.size W w2) := HB1.out.trans (hb2.mono HB1.out.size)
  clear hb2
  obtain ⟨x0, x1, z0, z1, hxg⟩ := (HBV.out w2 HB2.out).two
  cases g with
  | false =>
    go_wp2
    go_ret
    exact ⟨rfl, HFIN.out _ HB2.out⟩
  | true => ?_
  by_cases hlo : xa < 2
  · go_wp2
    go_ret
    exact ⟨rfl, HFIN.out _ HB2.out⟩
  by_cases hhi : 15 < xa
  · go_wp2
    go_ret
    exact ⟨rfl, HFIN.out _ HB2.out⟩
  by_cases hlo2 : xi < 0
  · go_wp2
    go_ret
    exact ⟨rfl, HFIN.out _ HB2.out⟩
  by_cases hhi2 : 11 < xi
  · go_wp2
    go_ret
    exact ⟨rfl, HFIN.out _ HB2.out⟩
  go_wp2_with fail
  refine (HR1.out trivial w2 HB2.out).mono ?_
  rintro e w3 ⟨A1, c1, rfl, hc1, hm1, ho1, hb3⟩
  have HB3 : Hid (Below W.heap.size W w3) := HB2.out.trans (hb3.mono HB2.out.size)
  clear hb3 x0 x1 z0 z1 hxg
  dsimp only at hc1 ho1
  have HC := Lib.hid ho1
  clear ho1
  by_cases her : er = 0
  case neg =>
    have hbad : l' = [] := by
      have := addL_bad l xa xi xq
      rw [← HRR.out] at this
      rcases this with h | h
      · exact absurd h her
      · exact h
    subst hbad
    have hne : (er != 0) = true := by simpa using her
    have hne2 : (er == 0) = false := by simpa using her
    go_wp2
    go_ret
    exact ⟨rfl, HFIN.out _ HB3.out⟩
  subst her
  have hK := kept HGG.out.symm ⟨by omega, by omega⟩ ⟨by omega, by omega⟩ HRR.out.symm
  have HK := Lib.hid hK
  have hqs := hK.qs
  have hxb := hK.hs
  clear hK
  have hl64 : l'.length ≤ 64 := ((good_iff _ _ _).1 HK.out.good).1
  have hW3 : W.heap.size ≤ w3.heap.size := HB3.out.size
  have HRL1 : Hid (∀ V, Below w3.heap.size w3 V → Rd V V.heap.size 3 A1 l'.length (lcs l')) := fun V h => ((Rd.of_own HC.out).below h).mono h.size
  have HQ1 : Hid (∀ V, Below W.heap.size W V → ∀ a i, Calls Try.prog 14 #[.slice B m d, .int .i64 a, .int .i64 i] V fun e w' => e = .returned (.int .i64 (qtyL l a i)) ∧ Below V.heap.size V w') := fun V hV a i => qty_any B m d l a i V (by unfold maxLen; omega) (HRL.out V hV)
  have HQ2 : Hid (∀ V, Below w3.heap.size w3 V → ∀ a i, Calls Try.prog 14 #[.slice A1 l'.length c1, .int .i64 a, .int .i64 i] V fun e w' => e = .returned (.int .i64 (qtyL l' a i)) ∧ Below V.heap.size V w') := fun V hV a i => qty_any A1 l'.length c1 l' a i V (by unfold maxLen; omega) (HRL1.out V hV)
  have HG2 : Hid (∀ V, Below w3.heap.size w3 V → Calls Try.prog 21 #[.slice A1 l'.length c1, .int .i64 16, .int .i64 12] V fun e w' => e = .returned (.bool true) ∧ Below V.heap.size V w') := fun V h => by rw [← HK.out.good]; exact good_any A1 l'.length c1 l' 16 12 V (by unfold maxLen; omega) (HRL1.out V h)
  have HR2 : Hid (∀ V, Below w3.heap.size w3 V → Calls Try.prog 11 #[.slice A1 l'.length c1, .int .i64 xa, .int .i64 xi, .int .i64 (-xq)] V (LOut V (l, 0))) := fun V h => by
    rw [← HK.out.back]
    exact add_any A1 l'.length c1 l' xa xi (-xq) V (good_tidy HK.out.good) (by omega) (HRL1.out V h)
  have HBW : Hid (∀ V, Below w3.heap.size w3 V → Below W.heap.size W V) := fun V h => HB3.out.trans (h.mono hW3)
  have HS : Hid (∀ V, Below w3.heap.size w3 V → (fun V => Below w3.heap.size w3 V ∧ V.cell? ⟨bx, 0, none⟩ = some (.int .i64 xa) ∧ V.cell? ⟨bx, 1, none⟩ = some (.int .i64 xi)) V) := fun V hV => by
    have a := (HBV.out V (HBW.out V hV)).two
    exact ⟨hV, a.1, a.2.1⟩
  have HREFL : Hid (Below w3.heap.size w3 w3) := Below.refl _ _
  obtain ⟨hx, hhx⟩ : ∃ hx, hx = qtyL l xa xi := ⟨_, rfl⟩
  have HHX : Hid (qtyL l' xa xi = hx + xq) := by rw [hhx]; exact HK.out.qty
  rw [← hhx] at hxb
  have HX1 : Hid (∀ V, Below W.heap.size W V → Calls Try.prog 14 #[.slice B m d, .int .i64 xa, .int .i64 xi] V fun e w' => e = .returned (.int .i64 hx) ∧ Below V.heap.size V w') := fun V hV => by rw [hhx]; exact HQ1.out V hV xa xi
  have HX2 : Hid (∀ V, Below w3.heap.size w3 V → Calls Try.prog 14 #[.slice A1 l'.length c1, .int .i64 xa, .int .i64 xi] V fun e w' => e = .returned (.int .i64 (hx + xq)) ∧ Below V.heap.size V w') := fun V hV => by rw [← HHX.out]; exact HQ2.out V hV xa xi
  clear hhx hc1 hm1
  have i5 : IntKind.i64.wrap (hx + xq) = hx + xq := IntWalk.i64_in _ (by omega)
  have i6 : IntKind.i64.wrap (-xq) = -xq := IntWalk.i64_in _ (by omega)
  obtain ⟨x0, x1, z0, z1, hxg⟩ := (HBV.out w3 HB3.out).two
  go_upto_region 8 with (fail)
  go_region_held3 (fun V => Below w3.heap.size w3 V ∧ V.cell? ⟨bx, 0, none⟩ = some (.int .i64 xa) ∧ V.cell? ⟨bx, 1, none⟩ = some (.int .i64 xi))
    (first
      | with_reducible assumption
      | (refine HS.out _ ?_; first | with_reducible exact HW2.out | with_reducible exact HREFL.out | with_reducible exact (Below.refl _ _).drew | with_reducible exact below_drewN _ _ _))
    (first
      | (go_at_call 21; obtain ⟨hB, -⟩ := ‹Below w3.heap.size w3 _ ∧ _›; refine (HG2.out _ hB).mono ?_; rintro e wq ⟨rfl, hbq⟩; have HW2 : Hid (Below w3.heap.size w3 wq) := hB.trans (hbq.mono hB.size); clear hB hbq; dsimp only)
      | (go_at_call 14; obtain ⟨hB, -⟩ := ‹Below w3.heap.size w3 _ ∧ _›; (first | with_reducible refine (HX1.out _ (HBW.out _ hB)).mono ?_ | with_reducible refine (HX2.out _ hB).mono ?_); rintro e wq ⟨rfl, hbq⟩; have HW2 : Hid (Below w3.heap.size w3 wq) := hB.trans (hbq.mono hB.size); clear hB hbq; dsimp only))
  obtain ⟨V4, hV4⟩ : ∃ V4, V4 = wq := ⟨_, rfl⟩
  have HB4 : Hid (Below w3.heap.size w3 V4) := by rw [hV4]; exact HW2.out
  rw [← hV4]
  clear hV4 HW2 x0 x1 z0 z1 hxg
  go_wp2
  go_loopw [74] (fun x wr => ∃ k : Nat, k ≤ m ∧ x = .int .i64 k ∧ Below w3.heap.size w3 wr) (fun x _ => m - (intOf x).toNat)
  case atStart => exact ⟨0, Nat.zero_le _, rfl, HB4.out⟩
  case round =>
    obtain ⟨k, hk, rfl, hb5⟩ := hrel
    have HB5 := Lib.hid hb5
    clear hb5
    rename World => V5
    by_cases hlt : k < m
    · have i1 : (k : Int) < (m : Int) := by omega
      have i2 : (0 : Int) ≤ (k : Int) := by omega
      have i3 : IntKind.i64.wrap ((k : Int) + 1) = (k : Int) + 1 := IntWalk.i64_in _ (by omega)
      have hkl : k < l.length := by have := HLL.out; omega
      obtain ⟨a0, hA, _, c0, c1', c2⟩ := rd_loc (HRL.out V5 (HBW.out V5 HB5.out)) hkl
      have hoth := HK.out.other _ (List.getElem_mem hkl)
      obtain ⟨⟨ya, yi, yq⟩, hx'⟩ : ∃ x, x = l[k] := ⟨_, rfl⟩
      rw [← hx'] at c0 c1' c2 hoth
      dsimp only at c0 c1' c2 hoth
      subst hA
      have HQP : Hid (¬ (ya = xa ∧ yi = xi) → ∀ V, Below w3.heap.size w3 V → Calls Try.prog 14 #[.slice A1 l'.length c1, .int .i64 ya, .int .i64 yi] V fun e w' => e = .returned (.int .i64 yq) ∧ Below V.heap.size V w') := fun hne V hV => by
        have := HQ2.out V hV ya yi
        rwa [hoth hne] at this
      clear hoth hx' hkl
      obtain ⟨V6, hV6⟩ : ∃ V6, V6 = V5.alloc (.cells #[.int .i64 ya, .int .i64 yi, .int .i64 yq] 36) := ⟨_, rfl⟩
      obtain ⟨bp, hbp⟩ : ∃ bp, bp = V5.heap.size := ⟨_, rfl⟩
      have HBP : Hid (Bk V6 bp 36 #[.int .i64 ya, .int .i64 yi, .int .i64 yq]) := by rw [hV6, hbp]; exact Bk.new _ _ _
      have HB6 : Hid (Below w3.heap.size w3 V6) := by rw [hV6]; exact HB5.out.alloc HB5.out.size _
      have hge : w3.heap.size ≤ V6.heap.size := HB6.out.size
      go_upto_region 13 with (fail)
      rw [← hV6, ← hbp]
      clear hV6 hbp c0 c1' c2
      obtain ⟨x0, x1, z0, z1, hxg⟩ := (HBV.out V6 (HBW.out V6 HB6.out)).two
      obtain ⟨y0, y1, y2, z2, z3, z4, hyg⟩ := HBP.out.three
      have HS6 : Hid (∀ V, Below V6.heap.size V6 V → (fun V => Below V6.heap.size V6 V ∧ V.cell? ⟨bx, 0, none⟩ = some (.int .i64 xa) ∧ V.cell? ⟨bx, 1, none⟩ = some (.int .i64 xi) ∧ V.cell? ⟨bp, 0, none⟩ = some (.int .i64 ya) ∧ V.cell? ⟨bp, 1, none⟩ = some (.int .i64 yi) ∧ V.cell? ⟨bp, 2, none⟩ = some (.int .i64 yq)) V) := fun V hV => by
        have a := (HBV.out V (HBW.out V (HB6.out.trans (hV.mono hge)))).two
        have b := (HBP.out.below hV HBP.out.lt).three
        exact ⟨hV, a.1, a.2.1, b.1, b.2.1, b.2.2.1⟩
      by_cases hkey : ya = xa ∧ yi = xi
      · obtain ⟨rfl, rfl⟩ := hkey
        go_quiet (fail)
        go_wp2
        exact ⟨⟨k + 1, by omega, by push_cast; rfl, ⟨HB6.out.os, HB6.out.tape, HB6.out.output, HB6.out.size, HB6.out.block⟩⟩, by simp only [intOf]; omega⟩
      have HQP1 := Lib.hid (HQP.out hkey)
      clear HQP
      have HBW6 : Hid (∀ V, Below V6.heap.size V6 V → Below w3.heap.size w3 V) := fun V hV => HB6.out.trans (hV.mono hge)
      have HREFL6 : Hid (Below V6.heap.size V6 V6) := Below.refl _ _
      clear x0 x1 z0 z1 hxg y0 y1 y2 z2 z3 z4 hyg
      have fin : ∀ V, Below V6.heap.size V6 V → ∃ k' : Nat, k' ≤ m ∧ Value.int IntKind.i64 ((k : Int) + 1) = .int .i64 k' ∧ Below w3.heap.size w3 V := fun V hV => ⟨k + 1, by omega, by push_cast; rfl, HBW6.out V hV⟩
      have FIN := Lib.hid fin
      clear fin
      by_cases hka : ya = xa
      · have hki : ¬ yi = xi := fun h => hkey ⟨hka, h⟩
        subst hka
        clear hkey
        have b1 : (yi != xi) = true := by simpa using hki
        have b2 : (yi == xi) = false := by simpa using hki
        clear hki
        go_region_held3 (fun V => Below V6.heap.size V6 V ∧ V.cell? ⟨bx, 0, none⟩ = some (.int .i64 ya) ∧ V.cell? ⟨bx, 1, none⟩ = some (.int .i64 xi) ∧ V.cell? ⟨bp, 0, none⟩ = some (.int .i64 ya) ∧ V.cell? ⟨bp, 1, none⟩ = some (.int .i64 yi) ∧ V.cell? ⟨bp, 2, none⟩ = some (.int .i64 yq))
          (first
            | with_reducible assumption
            | (refine HS6.out _ ?_; first | with_reducible exact HW2.out | with_reducible exact HREFL6.out | with_reducible exact (Below.refl _ _).drew | with_reducible exact below_drewN _ _ _))
          (first
            | (go_at_call 14; obtain ⟨hB, -⟩ := ‹Below V6.heap.size V6 _ ∧ _›; refine (HQP1.out _ (HBW6.out _ hB)).mono ?_; rintro e wq ⟨rfl, hbq⟩; have HW2 : Hid (Below V6.heap.size V6 wq) := hB.trans (hbq.mono hB.size); clear hB hbq; dsimp only))
        all_goals
          go_wp2
          exact ⟨FIN.out _ HW2.out, by simp only [intOf]; omega⟩
      · clear hkey
        have b1 : (ya != xa) = true := by simpa using hka
        have b2 : (ya == xa) = false := by simpa using hka
        clear hka
        refine wp_region_held_drew (S := (fun V => Below V6.heap.size V6 V ∧ V.cell? ⟨bx, 0, none⟩ = some (.int .i64 xa) ∧ V.cell? ⟨bx, 1, none⟩ = some (.int .i64 xi) ∧ V.cell? ⟨bp, 0, none⟩ = some (.int .i64 ya) ∧ V.cell? ⟨bp, 1, none⟩ = some (.int .i64 yi) ∧ V.cell? ⟨bp, 2, none⟩ = some (.int .i64 yq))) (by kernel_rfl) (HS6.out _ (Below.refl _ _).drew) (fun hHeld => ?_)
        refine wpAnyH_take (i := 0) (oi := { dst := some 78, op := Op.fieldAddr 36 (Operand.tmp 10) 0, type := 0, pos := "law.go:74", after := #[], guard := none }) (v := ?_) rfl (by kernel_rfl) (by kernel_rfl) (by kernel_rfl) (fun _ _ _ h => h) (Or.inl ⟨by rfl, ?_⟩) hHeld ?_
        rotate_left
        · intro w hSw
          try dsimp only at hSw
          obtain ⟨q0, q1, q2, q3, q4, q5⟩ := hSw
          first | (go_simp <;> fail) | (go_simp; with_reducible rfl)
        try simp only [Act.put, List.setIfInBounds_toArray, List.set_cons_zero, List.set_cons_succ]
        refine wpAnyH_take (i := 1) (oi := { dst := some 79, op := Op.load 3 (Operand.tmp 78), type := 3, pos := "law.go:74", after := #[{ on := 0, ground := Ground.data }], guard := none }) (v := ?_) rfl (by kernel_rfl) (by kernel_rfl) (by kernel_rfl) (fun _ _ _ h => h) (Or.inl ⟨by rfl, ?_⟩) hHeld ?_
        rotate_left
        · intro w hSw
          try dsimp only at hSw
          obtain ⟨q0, q1, q2, q3, q4, q5⟩ := hSw
          first | (go_simp <;> fail) | (go_simp; with_reducible rfl)
        try simp only [Act.put, List.setIfInBounds_toArray, List.set_cons_zero, List.set_cons_succ]
        refine wpAnyH_take (i := 2) (oi := { dst := some 80, op := Op.indexAddr 23 (Operand.tmp 4) (Operand.const (Value.int IntKind.i64 0)), type := 0, pos := "law.go:74", after := #[], guard := none }) (v := ?_) rfl (by kernel_rfl) (by kernel_rfl) (by kernel_rfl) (fun _ _ _ h => h) (Or.inl ⟨by rfl, ?_⟩) hHeld ?_
        rotate_left
        · intro w hSw
          try dsimp only at hSw
          obtain ⟨q0, q1, q2, q3, q4, q5⟩ := hSw
          first | (go_simp <;> fail) | (go_simp; with_reducible rfl)
        try simp only [Act.put, List.setIfInBounds_toArray, List.set_cons_zero, List.set_cons_succ]
        refine wpAnyH_take (i := 3) (oi := { dst := some 81, op := Op.load 3 (Operand.tmp 80), type := 3, pos := "law.go:74", after := #[{ on := 2, ground := Ground.data }], guard := none }) (v := ?_) rfl (by kernel_rfl) (by kernel_rfl) (by kernel_rfl) (fun _ _ _ h => h) (Or.inl ⟨by rfl, ?_⟩) hHeld ?_
        rotate_left
        · intro w hSw
          try dsimp only at hSw
          obtain ⟨q0, q1, q2, q3, q4, q5⟩ := hSw
          first | (go_simp <;> fail) | (go_simp; with_reducible rfl)
        try simp only [Act.put, List.setIfInBounds_toArray, List.set_cons_zero, List.set_cons_succ]
        refine wpAnyH_take (i := 4) (oi := { dst := some 82, op := Op.binOp BinOp.neq 3 (Operand.tmp 79) (Operand.tmp 81) 3, type := 4, pos := "law.go:74", after := #[{ on := 1, ground := Ground.data }, { on := 3, ground := Ground.data }], guard := none }) (v := .bool true) rfl (by kernel_rfl) (by kernel_rfl) (by kernel_rfl) (fun _ _ _ h => h) (Or.inl ⟨by rfl, ?_⟩) hHeld ?_
        skip
        · intro w hSw
          try dsimp only at hSw
          obtain ⟨q0, q1, q2, q3, q4, q5⟩ := hSw
          first | (go_simp <;> fail) | (go_simp; with_reducible rfl)
        try simp only [Act.put, List.setIfInBounds_toArray, List.set_cons_zero, List.set_cons_succ]
        refine wpAnyH_take (i := 5) (oi := { dst := some 83, op := Op.move (Operand.tmp 82), type := 4, pos := "law.go:74", after := #[{ on := 4, ground := Ground.data }], guard := none }) (v := .bool true) rfl (by kernel_rfl) (by kernel_rfl) (by kernel_rfl) (fun _ _ _ h => h) (Or.inl ⟨by rfl, ?_⟩) hHeld ?_
        skip
        · intro w hSw
          try dsimp only at hSw
          obtain ⟨q0, q1, q2, q3, q4, q5⟩ := hSw
          first | (go_simp <;> fail) | (go_simp; with_reducible rfl)
        try simp only [Act.put, List.setIfInBounds_toArray, List.set_cons_zero, List.set_cons_succ]
        refine wpAnyH_take (i := 6) (oi := { dst := some 84, op := Op.fieldAddr 36 (Operand.tmp 10) 1, type := 0, pos := "law.go:74", after := #[{ on := 5, ground := Ground.guard }], guard := some (5, false) }) (v := undef) rfl (by kernel_rfl) (by kernel_rfl) (by kernel_rfl) (fun _ _ _ h => h) (Or.inr ⟨by rfl, rfl⟩) hHeld ?_
        try simp only [Act.put, List.setIfInBounds_toArray, List.set_cons_zero, List.set_cons_succ]
        refine wpAnyH_take (i := 7) (oi := { dst := some 85, op := Op.load 3 (Operand.tmp 84), type := 3, pos := "law.go:74", after := #[{ on := 6, ground := Ground.data }, { on := 5, ground := Ground.guard }], guard := some (5, false) }) (v := undef) rfl (by kernel_rfl) (by kernel_rfl) (by kernel_rfl) (fun _ _ _ h => h) (Or.inr ⟨by rfl, rfl⟩) hHeld ?_
        try simp only [Act.put, List.setIfInBounds_toArray, List.set_cons_zero, List.set_cons_succ]
        refine wpAnyH_take (i := 8) (oi := { dst := some 86, op := Op.indexAddr 23 (Operand.tmp 4) (Operand.const (Value.int IntKind.i64 1)), type := 0, pos := "law.go:74", after := #[{ on := 5, ground := Ground.guard }], guard := some (5, false) }) (v := undef) rfl (by kernel_rfl) (by kernel_rfl) (by kernel_rfl) (fun _ _ _ h => h) (Or.inr ⟨by rfl, rfl⟩) hHeld ?_
        try simp only [Act.put, List.setIfInBounds_toArray, List.set_cons_zero, List.set_cons_succ]
        refine wpAnyH_take (i := 9) (oi := { dst := some 87, op := Op.load 3 (Operand.tmp 86), type := 3, pos := "law.go:74", after := #[{ on := 8, ground := Ground.data }, { on := 5, ground := Ground.guard }], guard := some (5, false) }) (v := undef) rfl (by kernel_rfl) (by kernel_rfl) (by kernel_rfl) (fun _ _ _ h => h) (Or.inr ⟨by rfl, rfl⟩) hHeld ?_
        try simp only [Act.put, List.setIfInBounds_toArray, List.set_cons_zero, List.set_cons_succ]
        refine wpAnyH_take (i := 10) (oi := { dst := some 88, op := Op.binOp BinOp.neq 3 (Operand.tmp 85) (Operand.tmp 87) 3, type := 4, pos := "law.go:74", after := #[{ on := 7, ground := Ground.data }, { on := 9, ground := Ground.data }, { on := 5, ground := Ground.guard }], guard := some (5, false) }) (v := undef) rfl (by kernel_rfl) (by kernel_rfl) (by kernel_rfl) (fun _ _ _ h => h) (Or.inr ⟨by rfl, rfl⟩) hHeld ?_
        try simp only [Act.put, List.setIfInBounds_toArray, List.set_cons_zero, List.set_cons_succ]
        refine wpAnyH_take (i := 11) (oi := { dst := some 89, op := Op.pick (Operand.tmp 83) (Operand.const (Value.bool true)) (Operand.tmp 88), type := 4, pos := "law.go:74", after := #[{ on := 5, ground := Ground.data }, { on := 10, ground := Ground.data }], guard := none }) (v := .bool true) rfl (by kernel_rfl) (by kernel_rfl) (by kernel_rfl) (fun _ _ _ h => h) (Or.inl ⟨by rfl, ?_⟩) hHeld ?_
        skip
        · intro w hSw
          try dsimp only at hSw
          obtain ⟨q0, q1, q2, q3, q4, q5⟩ := hSw
          first | (go_simp <;> fail) | (go_simp; with_reducible rfl)
        try simp only [Act.put, List.setIfInBounds_toArray, List.set_cons_zero, List.set_cons_succ]
        refine wpAnyH_take (i := 12) (oi := { dst := some 90, op := Op.move (Operand.tmp 89), type := 4, pos := "law.go:74", after := #[{ on := 11, ground := Ground.data }, { on := 5, ground := Ground.chain }], guard := none }) (v := .bool true) rfl (by kernel_rfl) (by kernel_rfl) (by kernel_rfl) (fun _ _ _ h => h) (Or.inl ⟨by rfl, ?_⟩) hHeld ?_
        skip
        · intro w hSw
          try dsimp only at hSw
          obtain ⟨q0, q1, q2, q3, q4, q5⟩ := hSw
          first | (go_simp <;> fail) | (go_simp; with_reducible rfl)
        try simp only [Act.put, List.setIfInBounds_toArray, List.set_cons_zero, List.set_cons_succ]
        refine wpAnyH_take (i := 13) (oi := { dst := some 91, op := Op.move (Operand.tmp 7), type := 22, pos := "law.go:74", after := #[{ on := 12, ground := Ground.guard }], guard := some (12, true) }) (v := ?_) rfl (by kernel_rfl) (by kernel_rfl) (by kernel_rfl) (fun _ _ _ h => h) (Or.inl ⟨by rfl, ?_⟩) hHeld ?_
        rotate_left
        · intro w hSw
          try dsimp only at hSw
          obtain ⟨q0, q1, q2, q3, q4, q5⟩ := hSw
          first | (go_simp <;> fail) | (go_simp; with_reducible rfl)
        try simp only [Act.put, List.setIfInBounds_toArray, List.set_cons_zero, List.set_cons_succ]
        refine wpAnyH_take (i := 14) (oi := { dst := some 92, op := Op.fieldAddr 36 (Operand.tmp 10) 0, type := 0, pos := "law.go:74", after := #[{ on := 12, ground := Ground.guard }], guard := some (12, true) }) (v := ?_) rfl (by kernel_rfl) (by kernel_rfl) (by kernel_rfl) (fun _ _ _ h => h) (Or.inl ⟨by rfl, ?_⟩) hHeld ?_
        rotate_left
        · intro w hSw
          try dsimp only at hSw
          obtain ⟨q0, q1, q2, q3, q4, q5⟩ := hSw
          first | (go_simp <;> fail) | (go_simp; with_reducible rfl)
        try simp only [Act.put, List.setIfInBounds_toArray, List.set_cons_zero, List.set_cons_succ]
        refine wpAnyH_take (i := 15) (oi := { dst := some 93, op := Op.load 3 (Operand.tmp 92), type := 3, pos := "law.go:74", after := #[{ on := 14, ground := Ground.data }, { on := 12, ground := Ground.guard }], guard := some (12, true) }) (v := ?_) rfl (by kernel_rfl) (by kernel_rfl) (by kernel_rfl) (fun _ _ _ h => h) (Or.inl ⟨by rfl, ?_⟩) hHeld ?_
        rotate_left
        · intro w hSw
          try dsimp only at hSw
          obtain ⟨q0, q1, q2, q3, q4, q5⟩ := hSw
          first | (go_simp <;> fail) | (go_simp; with_reducible rfl)
        try simp only [Act.put, List.setIfInBounds_toArray, List.set_cons_zero, List.set_cons_succ]
        refine wpAnyH_take (i := 16) (oi := { dst := some 94, op := Op.fieldAddr 36 (Operand.tmp 10) 1, type := 0, pos := "law.go:74", after := #[{ on := 12, ground := Ground.guard }], guard := some (12, true) }) (v := ?_) rfl (by kernel_rfl) (by kernel_rfl) (by kernel_rfl) (fun _ _ _ h => h) (Or.inl ⟨by rfl, ?_⟩) hHeld ?_
        rotate_left
        · intro w hSw
          try dsimp only at hSw
          obtain ⟨q0, q1, q2, q3, q4, q5⟩ := hSw
          first | (go_simp <;> fail) | (go_simp; with_reducible rfl)
        try simp only [Act.put, List.setIfInBounds_toArray, List.set_cons_zero, List.set_cons_succ]
        refine wpAnyH_take (i := 17) (oi := { dst := some 95, op := Op.load 3 (Operand.tmp 94), type := 3, pos := "law.go:74", after := #[{ on := 16, ground := Ground.data }, { on := 12, ground := Ground.guard }], guard := some (12, true) }) (v := ?_) rfl (by kernel_rfl) (by kernel_rfl) (by kernel_rfl) (fun _ _ _ h => h) (Or.inl ⟨by rfl, ?_⟩) hHeld ?_
        rotate_left
        · intro w hSw
          try dsimp only at hSw
          obtain ⟨q0, q1, q2, q3, q4, q5⟩ := hSw
          first | (go_simp <;> fail) | (go_simp; with_reducible rfl)
        try simp only [Act.put, List.setIfInBounds_toArray, List.set_cons_zero, List.set_cons_succ]
        refine wpAnyH_take (i := 19) (oi := { dst := some 97, op := Op.fieldAddr 36 (Operand.tmp 10) 2, type := 0, pos := "law.go:74", after := #[{ on := 12, ground := Ground.guard }], guard := some (12, true) }) (v := ?_) rfl (by kernel_rfl) (by kernel_rfl) (by kernel_rfl) (fun _ _ _ h => h) (Or.inl ⟨by rfl, ?_⟩) hHeld ?_
        rotate_left
        · intro w hSw
          try dsimp only at hSw
          obtain ⟨q0, q1, q2, q3, q4, q5⟩ := hSw
          first | (go_simp <;> fail) | (go_simp; with_reducible rfl)
        try simp only [Act.put, List.setIfInBounds_toArray, List.set_cons_zero, List.set_cons_succ]
        refine wpAnyH_take (i := 20) (oi := { dst := some 98, op := Op.load 3 (Operand.tmp 97), type := 3, pos := "law.go:74", after := #[{ on := 19, ground := Ground.data }, { on := 12, ground := Ground.guard }], guard := some (12, true) }) (v := ?_) rfl (by kernel_rfl) (by kernel_rfl) (by kernel_rfl) (fun _ _ _ h => h) (Or.inl ⟨by rfl, ?_⟩) hHeld ?_
        rotate_left
        · intro w hSw
          try dsimp only at hSw
          obtain ⟨q0, q1, q2, q3, q4, q5⟩ := hSw
          first | (go_simp <;> fail) | (go_simp; with_reducible rfl)
        try simp only [Act.put, List.setIfInBounds_toArray, List.set_cons_zero, List.set_cons_succ]
        refine wpAnyH_ready (rs := [18]) (by kernel_rfl) (by simp) ?_
        refine AllReadyH.cons (o := { dst := some 96, op := Op.call { callee := Callee.value (Operand.func 14), args := #[Operand.tmp 91, Operand.tmp 93, Operand.tmp 95], argTypes := #[22, 3, 3] }, type := 3, pos := "law.go:74", after := #[{ on := 13, ground := Ground.data }, { on := 15, ground := Ground.data }, { on := 17, ground := Ground.data }, { on := 12, ground := Ground.chain }, { on := 12, ground := Ground.guard }], guard := some (12, true) }) rfl (fun K hK => ?_) AllReadyH.nil
        go_simp
        obtain ⟨hB, -⟩ := hHeld
        refine (HQP1.out _ (HBW6.out _ hB)).mono ?_
        rintro e wq ⟨rfl, hbq⟩
        have HW2 : Hid (Below V6.heap.size V6 wq) := hB.trans (hbq.mono hB.size)
        clear hB hbq
        dsimp only
        refine hK.out _ _ (HS6.out _ HW2.out) (fun hHeld => ?_)
        clear hK K
        try simp only [Act.put, List.setIfInBounds_toArray, List.set_cons_zero, List.set_cons_succ]
        refine wpAnyH_take (i := 21) (oi := { dst := some 99, op := Op.binOp BinOp.neq 3 (Operand.tmp 96) (Operand.tmp 98) 3, type := 4, pos := "law.go:74", after := #[{ on := 18, ground := Ground.data }, { on := 20, ground := Ground.data }, { on := 12, ground := Ground.guard }], guard := some (12, true) }) (v := .bool false) rfl (by kernel_rfl) (by kernel_rfl) (by kernel_rfl) (fun _ _ _ h => h) (Or.inl ⟨by rfl, ?_⟩) hHeld ?_
        skip
        · intro w hSw
          try dsimp only at hSw
          obtain ⟨q0, q1, q2, q3, q4, q5⟩ := hSw
          first | (go_simp <;> fail) | (go_simp; with_reducible rfl)
        try simp only [Act.put, List.setIfInBounds_toArray, List.set_cons_zero, List.set_cons_succ]
        refine wpAnyH_take (i := 22) (oi := { dst := some 100, op := Op.pick (Operand.tmp 90) (Operand.tmp 99) (Operand.const (Value.bool false)), type := 4, pos := "law.go:74", after := #[{ on := 12, ground := Ground.data }, { on := 21, ground := Ground.data }], guard := none }) (v := .bool false) rfl (by kernel_rfl) (by kernel_rfl) (by kernel_rfl) (fun _ _ _ h => h) (Or.inl ⟨by rfl, ?_⟩) hHeld ?_
        skip
        · intro w hSw
          try dsimp only at hSw
          obtain ⟨q0, q1, q2, q3, q4, q5⟩ := hSw
          first | (go_simp <;> fail) | (go_simp; with_reducible rfl)
        try simp only [Act.put, List.setIfInBounds_toArray, List.set_cons_zero, List.set_cons_succ]
        refine wpAnyH_done (by kernel_rfl) ?_ _
        go_wp2
        exact ⟨FIN.out _ HW2.out, by simp only [intOf]; omega⟩
    · have i3 : ¬ ((k : Int) < (m : Int)) := by omega
      obtain ⟨x0, x1, z0, z1, hxg⟩ := (HBV.out V5 (HBW.out V5 HB5.out)).two
      go_wp2_with fail
      refine (HR2.out V5 HB5.out).mono ?_
      rintro e w6 ⟨A4, c4, rfl, hc4, hm4, ho4, hb6⟩
      dsimp only at hc4 ho4 ⊢
      have HB6 : Hid (Below w3.heap.size w3 w6) := HB5.out.trans (hb6.mono HB5.out.size)
      clear x0 x1 z0 z1 hxg hb6
      have HSAME : Hid (∀ V, Below w6.heap.size w6 V → Calls Try.prog 13 #[.slice A4 l.length c4, .slice B m d] V fun e w' => e = .returned (.bool true) ∧ ∃ m, w' = V.drewN m) := fun V hV => by
        rw [HLL.out]
        refine same_any A4 B m c4 d l V HLL.out (by unfold maxLen; omega) ?_ (HRL.out V (HBW.out V (HB6.out.trans (hV.mono HB6.out.size))))
        have := ((Rd.of_own ho4).below hV).mono hV.size
        rwa [HLL.out] at this
      clear hc4 hm4 ho4
      by_cases hless : l'.length < m
      · have i7 : (l'.length : Int) < (m : Int) := by omega
        go_wp2_with fail
        refine (HSAME.out w6 (Below.refl _ _)).mono ?_
        rintro e w8 ⟨rfl, q8, rfl⟩
        go_wp2
        go_ret
        refine ⟨rfl, HFIN.out _ (HBW.out _ ?_)⟩
        have h7 := HB6.out
        exact ⟨h7.os, h7.tape, h7.output, h7.size, h7.block⟩
      · have i7 : ¬ (l'.length : Int) < (m : Int) := by omega
        go_wp2_with fail
        refine (HSAME.out w6 (Below.refl _ _)).mono ?_
        rintro e w8 ⟨rfl, q8, rfl⟩
        go_wp2
        go_ret
        refine ⟨rfl, HFIN.out _ (HBW.out _ ?_)⟩
        have h7 := HB6.out
        exact ⟨h7.os, h7.tape, h7.output, h7.size, h7.block⟩

end Go.Proofs.Ytiapbgbbeakoiaa.P
