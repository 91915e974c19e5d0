/- Walk of Come, at one end. By gen_lc.py. -/
import Derived.Test.YtnbndhmdfheikaaLK0t
namespace Go.Proofs.Ytnbndhmdfheikaa
open Go.RowKit

set_option maxHeartbeats 8000000 in
set_option maxRecDepth 100000 in
theorem come_1_true (L lb : Nat) (st : Lk) (R : Nat → Option Addr) (C : Nat → Nat) (W : World) (i : Int) (hl : LinkAt L lb st R C W) (hu : (st.u 1).length ≤ 4096) (hu' : (st.u 0).length ≤ 4096) (hg : (st.g 1).length ≤ 1099511627776) (hLW : L ≤ W.heap.size) (hs : (st.e 1).sent.length ≤ maxLen) :
    Calls Try.prog 16 #[.pointer (some ⟨lb, 0, none⟩), .int .i64 1, .int .i64 i, .bool true] W fun e W' => e = .returned (.int .i64 (comeK st 1 i true).2) ∧ LOut L lb R W (comeK st 1 i true).1 W' := by
  by_cases hin : 0 ≤ i ∧ i < (st.u 1).length
  case neg =>
    rw [show comeK st 1 i true = (st, 1) from if_neg hin]
    have q0 : W.cell? ⟨lb, 7, none⟩ = some (.slice (R 3) (st.u 1).length (C 3)) := by rw [hl.bk.cell]; simp [lkCells]
    have hlb := hl.bk.lt
    have HL0 := Lib.hid hl
    obtain ⟨n, hn⟩ : ∃ n, n = (st.u 1).length := ⟨_, rfl⟩
    rw [← hn] at q0 hu hin
    clear hl hn hu' hg hs
    by_cases h0 : 0 ≤ i
    · have i1 : ¬ i < 0 := by omega
      have i2 : ¬ i < (n : Int) := fun h => hin ⟨h0, h⟩
      have i3 : (n : Int) ≤ i := by omega
      clear hin
      go_enter Try.func16, Try.ntmps16
      go_wp2_with fail
      refine (end_any lb 1 W).mono ?_
      rintro e w' ⟨rfl, hw'⟩
      rw [hw']
      clear hw' w'
      rw [decide_eq_true (by omega)]
      go_wp2
      go_ret
      exact ⟨rfl, R, C, HL0.out, Kept.refl _ _ _⟩
    · have i1 : i < 0 := by omega
      clear hin
      go_enter Try.func16, Try.ntmps16
      go_wp2_with fail
      refine (end_any lb 1 W).mono ?_
      rintro e w' ⟨rfl, hw'⟩
      rw [hw']
      clear hw' w'
      rw [decide_eq_true (by omega)]
      go_wp2
      go_ret
      exact ⟨rfl, R, C, HL0.out, Kept.refl _ _ _⟩
  have hown : W.ownsRow L 44 4 (.slice (R 3) (st.u 1).length (C 3)) (st.u 1).length (frs (st.u 1)) := by simpa [rowTy, rowSz, rowLn, rowXs] using hl.own 3 (by omega)
  obtain ⟨p, rfl⟩ : ∃ p : Nat, i = (p : Int) := ⟨i.toNat, by omega⟩
  obtain ⟨m, hm⟩ : ∃ m, (st.u 1).length = m + 1 := ⟨(st.u 1).length - 1, by omega⟩
  have hpm : p < m + 1 := by omega
  obtain ⟨g, cur, hRg, hLg, hBg, hnc, hcm, hsz, htk⟩ := row_open hown (by omega)
  obtain ⟨c, hc⟩ : ∃ c, c = C 3 := ⟨_, rfl⟩
  rw [hm] at htk hnc
  rw [← hc] at hcm hsz hnc
  have HR : Hid (R 3 = some ⟨g, 0, none⟩ ∧ (st.u 1).length = m + 1 ∧ C 3 = c) := ⟨hRg, hm, hc.symm⟩
  obtain ⟨⟨fk, fn, ft, fb⟩, hf⟩ : ∃ f, f = (st.u 1).getD p default := ⟨_, rfl⟩
  obtain ⟨rr, hrr⟩ : ∃ rr, rr = takeS (st.e 1) ⟨fk, fn, ft, fb⟩ := ⟨_, rfl⟩
  have HCK : Hid (comeK st 1 p true = if rr.e = 0 then (tookK (offK st 1 p true) 1 rr, 0) else (offK st 1 p true, rr.e)) := by
    rw [hrr, hf]
    exact if_pos hin
  have hfc : (frs (st.u 1)).drop (p * 4) = Fr.cells ⟨fk, fn, ft, fb⟩ ++ frs ((st.u 1).drop (p + 1)) := by
    rw [frs_drop, List.drop_eq_getElem_cons (by omega), hf, getD_lt (by omega)]
    rfl
  have hcg : ∀ j u, (Fr.cells ⟨fk, fn, ft, fb⟩)[j]? = some u → W.cell? ⟨g, p * 4 + j, none⟩ = some u := fun j u hu => by
    have hj := (List.getElem?_eq_some_iff.1 hu).1
    have hj4 : j < 4 := hj
    rw [hBg.cell, ← Array.getElem?_toList]
    have e : ((frs (st.u 1)).drop (p * 4))[j]? = some u := by rw [hfc, List.getElem?_append_left hj]; exact hu
    rw [List.getElem?_drop, ← htk, List.getElem?_take_of_lt (by omega)] at e
    exact e
  have f0 : W.cell? ⟨g, p * 4, none⟩ = some (.int .i64 fk) := hcg 0 _ rfl
  have f1 : W.cell? ⟨g, p * 4 + 1, none⟩ = some (.int .i64 fn) := hcg 1 _ rfl
  have f2 : W.cell? ⟨g, p * 4 + 2, none⟩ = some (.int .i64 ft) := hcg 2 _ rfl
  have f3 : W.cell? ⟨g, p * 4 + 3, none⟩ = some (.string fb) := hcg 3 _ rfl
  have q0 : W.cell? ⟨lb, 7, none⟩ = some (.slice (some ⟨g, 0, none⟩) (m + 1) c) := by rw [hl.bk.cell, ← HR.out.1, ← HR.out.2.1, ← HR.out.2.2]; simp [lkCells]
  have hlb := hl.bk.lt
  have HL0 := Lib.hid hl
  have H3 := Lib.hid hrr
  have hml : m + 1 ≤ 4096 := by omega
  have i0 : (0 : Int) ≤ (p : Int) := by omega
  have i1 : ¬ (p : Int) < 0 := by omega
  have i2 : (p : Int) < (m : Int) + 1 := by omega
  have i3 : ¬ (m : Int) + 1 ≤ (p : Int) := by omega
  have i4 : IntKind.i64.wrap ((p : Int) + 1) = (p : Int) + 1 := IntWalk.i64_in _ (by omega)
  have HPM := Lib.hid hpm
  have HCUR := Lib.hid (And.intro hLg (And.intro hBg (And.intro hnc (And.intro hcm (And.intro hsz htk)))))
  obtain ⟨V0, hV0⟩ : ∃ V0, V0 = W.alloc (.cells #[.int .i64 fk, .int .i64 fn, .int .i64 ft, .string fb] 44) := ⟨_, rfl⟩
  obtain ⟨bf, hbf⟩ : ∃ bf, bf = W.heap.size := ⟨_, rfl⟩
  have HBF0 : Hid (Bk V0 bf 44 #[.int .i64 fk, .int .i64 fn, .int .i64 ft, .string fb]) := by rw [hV0, hbf]; exact Bk.new _ _ _
  have HL1 : Hid (LinkAt L lb st R C V0) := by rw [hV0]; exact hl.alloc _
  have HK1 : Hid (Kept lb R R W V0) := by rw [hV0]; exact Kept.of_below _ _ ((Below.refl _ W).alloc (Nat.le_refl _) _)
  have HBG0 : Hid (Bk V0 g 44 cur) := by rw [hV0]; exact hBg.alloc _
  have HNEW : Hid (¬ inLink lb R bf) := fun hi => by have := (hl.blocks _ hi).2; omega
  clear hl hin hown hRg hLg hBg hnc hcm hsz htk hc hm hu hpm hf hrr hfc hcg
  go_enter Try.func16, Try.ntmps16
  go_wp2_with fail
  refine (end_any lb 1 W).mono ?_
  rintro e w' ⟨rfl, hw'⟩
  rw [hw']
  clear hw' w'
  rw [decide_eq_true (by omega)]
  go_upto_region 4 with (fail)
  rw [← hV0, ← hbf]
  clear hV0 hbf q0 f0 f1 f2 f3 hlb
  obtain ⟨V, hV⟩ : ∃ V, V = V0 := ⟨_, rfl⟩
  obtain ⟨st1, hst1⟩ : ∃ st1, st1 = offK st 1 p true := ⟨_, rfl⟩
  have hoff : offK st 1 p true = st := if_pos rfl
  have HST1 : Hid (st1.e 1 = st.e 1 ∧ (st1.u 0) = st.u 0 ∧ st1.g = st.g ∧ offK st 1 p true = st1) := by rw [hst1, hoff]; exact ⟨rfl, rfl, rfl, rfl⟩
  obtain ⟨R1, hR1⟩ : ∃ R1, R1 = R := ⟨_, rfl⟩
  obtain ⟨C1, hC1⟩ : ∃ C1, C1 = C := ⟨_, rfl⟩
  have HLV : Hid (LinkAt L lb st1 R1 C1 V) := by rw [hV, hst1, hoff, hR1, hC1]; exact HL1.out
  have HKV : Hid (Kept lb R R1 W V) := by rw [hV, hR1]; exact HK1.out
  have HBF : Hid (Bk V bf 44 #[.int .i64 fk, .int .i64 fn, .int .i64 ft, .string fb]) := by rw [hV]; exact HBF0.out
  rw [← hV]
  clear hV hst1 hoff hR1 hC1
  -- one world V, one state st1, from here on
  have hown1 : V.ownsRow L 9 1 (.slice (R1 1) (st1.e 1).sent.length (C1 1)) (st1.e 1).sent.length ((st1.e 1).sent.map Value.string) := by simpa [rowTy, rowSz, rowLn, rowXs] using HLV.out.own 1 (by omega)
  have HTAKE : Hid (∀ V', Below V.heap.size V V' → Calls Try.prog 31 #[.agg #[.slice (R1 1) (st1.e 1).sent.length (C1 1), .int .i64 (st1.e 1).taken, .int .i64 (st1.e 1).known], .agg #[.int .i64 fk, .int .i64 fn, .int .i64 ft, .string fb]] V' (TakeOut V' rr)) := fun V' hV' => by
    have h0 := take_any (R1 1) (st1.e 1).sent.length (C1 1) (st1.e 1) ⟨fk, fn, ft, fb⟩ V' (by rw [HST1.out.1]; exact hs) (((Rd.of_own hown1).below hV').mono hV'.size)
    rw [HST1.out.1, ← H3.out] at h0
    rw [HST1.out.1]
    exact h0
  obtain ⟨rs, rm, rl, re⟩ := rr
  unfold TakeOut sideVal at HTAKE
  dsimp only at HTAKE HCK
  clear hown1
  have HS : Hid (∀ w', Below V.heap.size V w' → (fun w' => Below V.heap.size V w' ∧ w'.cell? ⟨lb, 3, none⟩ = some (.slice (R1 1) (st1.e 1).sent.length (C1 1)) ∧ w'.cell? ⟨lb, 4, none⟩ = some (.int .i64 (st1.e 1).taken) ∧ w'.cell? ⟨lb, 5, none⟩ = some (.int .i64 (st1.e 1).known) ∧ w'.cell? ⟨bf, 0, none⟩ = some (.int .i64 fk) ∧ w'.cell? ⟨bf, 1, none⟩ = some (.int .i64 fn) ∧ w'.cell? ⟨bf, 2, none⟩ = some (.int .i64 ft) ∧ w'.cell? ⟨bf, 3, none⟩ = some (.string fb)) w') := fun w' hw' => by
    have hb := HLV.out.bk.below hw' HLV.out.bk.lt
    have hb2 := HBF.out.below hw' HBF.out.lt
    obtain ⟨x0, x1, x2, x3, z0, z1, z2, z3, hxg⟩ := hb2.four
    exact ⟨hw', by rw [hb.cell]; simp [lkCells], by rw [hb.cell]; simp [lkCells], by rw [hb.cell]; simp [lkCells], x0, x1, x2, x3⟩
  have hbV : Below V.heap.size V V.drew := (Below.refl _ V).drew
  have hlbV := HLV.out.bk.lt
  have hbfV := HBF.out.lt
  go_upto_region 6 with (fail)
  go_region_held3 (fun w' => Below V.heap.size V w' ∧ w'.cell? ⟨lb, 3, none⟩ = some (.slice (R1 1) (st1.e 1).sent.length (C1 1)) ∧ w'.cell? ⟨lb, 4, none⟩ = some (.int .i64 (st1.e 1).taken) ∧ w'.cell? ⟨lb, 5, none⟩ = some (.int .i64 (st1.e 1).known) ∧ w'.cell? ⟨bf, 0, none⟩ = some (.int .i64 fk) ∧ w'.cell? ⟨bf, 1, none⟩ = some (.int .i64 fn) ∧ w'.cell? ⟨bf, 2, none⟩ = some (.int .i64 ft) ∧ w'.cell? ⟨bf, 3, none⟩ = some (.string fb))
    (first
      | with_reducible assumption
      | (refine HS.out _ ?_; first | with_reducible exact HW2.out | exact (Below.refl _ _).drew | exact ((Below.refl _ _).drew).alloc (Nat.le_refl _) _ | exact HW2.out.alloc HW2.out.size _ | (refine Below.setCell (Below.setCell (Below.setCell ?_ ?_ _) ?_ _) ?_ _ <;> first | with_reducible exact HW2.out | exact HW2.out.alloc HW2.out.size _ | exact HW2.out.size | exact Nat.le_refl _)))
    (first
      | (go_at_call 31; obtain ⟨hB, -⟩ := ‹Below V.heap.size V _ ∧ _›; refine (HTAKE.out _ hB).mono ?_; rintro e w1 ⟨A1, d1, A2, d2, rfl, hd1, hm1, hd2, hm2, ho1, ho2, hb1⟩; have HW2 : Hid (Below V.heap.size V w1) := hB.trans (hb1.mono hB.size); have HO1 := Lib.hid ho1; have HO2 := Lib.hid ho2; have HD := Lib.hid (And.intro hd1 (And.intro hm1 (And.intro hd2 hm2))); (first | (have hnew : Bk w1 V.heap.size 33 #[.slice none 0 0, .int .i64 0, .int .i64 0] := Bk.below (Bk.new V.drew 33 #[.slice none 0 0, .int .i64 0, .int .i64 0]) hb1 (Bk.new V.drew 33 #[.slice none 0 0, .int .i64 0, .int .i64 0]).lt; have HNW := Lib.hid hnew; obtain ⟨n0, n1, n2, y0, y1, y2, hng⟩ := hnew.three; clear hnew) | (have HNW : Hid True := Lib.hid trivial)); clear hB hb1 ho1 ho2 hd1 hm1 hd2 hm2; dsimp only))
  · rename_i hHx
    clear hHx
    obtain ⟨bs, hbs⟩ : ∃ bs, bs = w1.heap.size := ⟨_, rfl⟩
    obtain ⟨V6, hV6⟩ : ∃ V6, V6 = w1.alloc (.cells #[.slice A1 rs.sent.length d1, .int .i64 rs.taken, .int .i64 rs.known] 33) := ⟨_, rfl⟩
    have HBS : Hid (Bk V6 bs 33 #[.slice A1 rs.sent.length d1, .int .i64 rs.taken, .int .i64 rs.known]) := by rw [hV6, hbs]; exact Bk.new _ _ _
    have HB6 : Hid (Below V.heap.size V V6) := by rw [hV6]; exact HW2.out.alloc HW2.out.size _
    have HO16 : Hid (V6.ownsRow V.heap.size 9 1 (.slice A1 rs.sent.length d1) rs.sent.length (rs.sent.map Value.string)) := by rw [hV6]; exact (own_mono HO1.out (Nat.le_refl _)).alloc _
    have HO26 : Hid (V6.ownsRow V.heap.size 44 4 (.slice A2 rl.length d2) rl.length (frs rl)) := by rw [hV6]; exact (own_mono HO2.out (Nat.le_refl _)).alloc _
    have hbsV : V.heap.size ≤ bs := by rw [hbs]; exact HW2.out.size
    rw [← hV6, ← hbs]
    clear hV6 hbs HO1 HO2 HW2 HNW
    have HL6 : Hid (LinkAt L lb st1 R1 C1 V6) := HLV.out.over HB6.out
    have HKV6 : Hid (Kept lb R1 R1 V V6) := Kept.of_below _ _ HB6.out
    clear hbV hlbV hbfV
    by_cases her : re = 0
    case neg =>
      have hne : (re != 0) = true := by simpa using her
      have hne2 : (re == 0) = false := by simpa using her
      have hsk := HCK.out
      rw [if_neg her, HST1.out.2.2.2] at hsk
      have HSK1 := Lib.hid hsk
      clear hsk her
      go_wp2
      go_ret
      rw [HSK1.out]
      exact ⟨rfl, R1, C1, HL6.out, HKV.out.trans HKV6.out⟩
    subst her
    have hsk := HCK.out
    rw [if_pos rfl, HST1.out.2.2.2] at hsk
    have HSK1 := Lib.hid hsk
    clear hsk HCK
    have HAP := Lib.hid (apart_in HLV.out HO16.out HO26.out 1)
    have hblb := HL6.out.bk
    obtain ⟨x0, x1, x2, z0, z1, z2, hxg⟩ := HBS.out.three
    have y0 : V6.cell? ⟨lb, 3, none⟩ = some (.slice (R1 1) (st1.e 1).sent.length (C1 1)) := by rw [hblb.cell]; simp [lkCells]
    have y1 : V6.cell? ⟨lb, 4, none⟩ = some (.int .i64 (st1.e 1).taken) := by rw [hblb.cell]; simp [lkCells]
    have y2 : V6.cell? ⟨lb, 5, none⟩ = some (.int .i64 (st1.e 1).known) := by rw [hblb.cell]; simp [lkCells]
    have u0 := hblb.frozen 3
    have u1 := hblb.frozen 4
    have u2 := hblb.frozen 5
    have hlv := hblb.lt
    clear hblb
    have HS0 : Hid ((fun V => V.cell? ⟨bs, 0, none⟩ = some (.slice A1 rs.sent.length d1) ∧ V.cell? ⟨bs, 1, none⟩ = some (.int .i64 rs.taken) ∧ V.cell? ⟨bs, 2, none⟩ = some (.int .i64 rs.known)) V6.drew) := ⟨x0, x1, x2⟩
    go_upto_region 9 with (fail)
    refine region_anyL (fun V => V.cell? ⟨bs, 0, none⟩ = some (.slice A1 rs.sent.length d1) ∧ V.cell? ⟨bs, 1, none⟩ = some (.int .i64 rs.taken) ∧ V.cell? ⟨bs, 2, none⟩ = some (.int .i64 rs.known)) 6 (by kernel_rfl) ?_
    refine anyL_take (i := 0) (oi := { dst := some 75, op := Op.move (Operand.tmp 0), type := 24, pos := "link.go:99", after := #[], guard := none }) (v := ?_) rfl (by kernel_rfl) (by kernel_rfl) (by kernel_rfl) (by kernel_rfl) (fun _ _ _ h => h) (Or.inl ⟨by rfl, ?_⟩) (HS0.out) ?_
    rotate_left
    · intro w hSw
      try dsimp only at hSw
      obtain ⟨q0, q1, q2⟩ := hSw
      first | (go_simp <;> fail) | (go_simp; with_reducible rfl)
    try simp only [Act.put, List.setIfInBounds_toArray, List.set_cons_zero, List.set_cons_succ]
    refine anyL_take (i := 1) (oi := { dst := some 76, op := Op.move (Operand.tmp 1), type := 3, pos := "link.go:99", after := #[], guard := none }) (v := ?_) rfl (by kernel_rfl) (by kernel_rfl) (by kernel_rfl) (by kernel_rfl) (fun _ _ _ h => h) (Or.inl ⟨by rfl, ?_⟩) (HS0.out) ?_
    rotate_left
    · intro w hSw
      try dsimp only at hSw
      obtain ⟨q0, q1, q2⟩ := hSw
      first | (go_simp <;> fail) | (go_simp; with_reducible rfl)
    try simp only [Act.put, List.setIfInBounds_toArray, List.set_cons_zero, List.set_cons_succ]
    refine anyL_take (i := 2) (oi := { dst := some 77, op := Op.load 33 (Operand.tmp 10), type := 33, pos := "link.go:99", after := #[], guard := none }) (v := ?_) rfl (by kernel_rfl) (by kernel_rfl) (by kernel_rfl) (by kernel_rfl) (fun _ _ _ h => h) (Or.inl ⟨by rfl, ?_⟩) (HS0.out) ?_
    rotate_left
    · intro w hSw
      try dsimp only at hSw
      obtain ⟨q0, q1, q2⟩ := hSw
      first | (go_simp <;> fail) | (go_simp; with_reducible rfl)
    try simp only [Act.put, List.setIfInBounds_toArray, List.set_cons_zero, List.set_cons_succ]
    refine anyL_takeC [4, 5] (i := 3) (oi := { dst := some 78, op := Op.nilCheck (Operand.tmp 75), type := 0, pos := "link.go:99", after := #[{ on := 0, ground := Ground.data }], guard := none }) (v := ?_) rfl (by kernel_rfl) (by kernel_rfl) (by kernel_rfl) (by kernel_rfl) (by kernel_rfl) (fun _ _ _ h => h) (Or.inl ⟨by rfl, ?_⟩) (HS0.out) ?_
    rotate_left
    · intro w hSw
      try dsimp only at hSw
      obtain ⟨q0, q1, q2⟩ := hSw
      first | (go_simp <;> fail) | (go_simp; with_reducible rfl)
    try simp only [Act.put, List.setIfInBounds_toArray, List.set_cons_zero, List.set_cons_succ]
    refine anyL_takeC [5] (i := 4) (oi := { dst := some 79, op := Op.fieldAddr 58 (Operand.tmp 78) 0, type := 0, pos := "link.go:99", after := #[{ on := 3, ground := Ground.data }], guard := none }) (v := ?_) rfl (by kernel_rfl) (by kernel_rfl) (by kernel_rfl) (by kernel_rfl) (by kernel_rfl) (fun _ _ _ h => h) (Or.inl ⟨by rfl, ?_⟩) (HS0.out) ?_
    rotate_left
    · intro w hSw
      try dsimp only at hSw
      obtain ⟨q0, q1, q2⟩ := hSw
      first | (go_simp <;> fail) | (go_simp; with_reducible rfl)
    try simp only [Act.put, List.setIfInBounds_toArray, List.set_cons_zero, List.set_cons_succ]
    refine anyL_take (i := 5) (oi := { dst := some 80, op := Op.indexAddr 48 (Operand.tmp 79) (Operand.tmp 76), type := 0, pos := "link.go:99", after := #[{ on := 4, ground := Ground.data }, { on := 1, ground := Ground.data }, { on := 0, ground := Ground.phase }, { on := 1, ground := Ground.phase }, { on := 2, ground := Ground.phase }], guard := none }) (v := ?_) rfl (by kernel_rfl) (by kernel_rfl) (by kernel_rfl) (by kernel_rfl) (fun _ _ _ h => h) (Or.inl ⟨by rfl, ?_⟩) (HS0.out) ?_
    rotate_left
    · intro w hSw
      try dsimp only at hSw
      obtain ⟨q0, q1, q2⟩ := hSw
      first | (go_simp <;> fail) | (go_simp; with_reducible rfl)
    try simp only [Act.put, List.setIfInBounds_toArray, List.set_cons_zero, List.set_cons_succ]
    refine anyL_one (i := 6) (o := { dst := none, op := Op.store 33 (Operand.tmp 80) (Operand.tmp 77), type := 0, pos := "link.go:99", after := #[{ on := 5, ground := Ground.data }, { on := 2, ground := Ground.data }, { on := 0, ground := Ground.phase }, { on := 1, ground := Ground.phase }, { on := 2, ground := Ground.phase }], guard := none }) (by kernel_rfl) rfl (fun K hK => ?_)
    go_simp
    refine hK.out _ _ (fun h0 => absurd rfl h0) ?_
    clear hK K
    try simp only [Act.put, List.setIfInBounds_toArray, List.set_cons_zero, List.set_cons_succ]
    refine anyL_done (by kernel_rfl) ?_ _
    obtain ⟨V7, hV7⟩ : ∃ V7, V7 = (((V6.setCell ⟨lb, 3, none⟩ (.slice A1 rs.sent.length d1)).setCell ⟨lb, 4, none⟩ (.int .i64 rs.taken)).setCell ⟨lb, 5, none⟩ (.int .i64 rs.known)).drew := ⟨_, rfl⟩
    have hres0 := LinkAt.end1 (s' := rs) (V := V6) HLV.out (Nat.le_trans hLW HKV.out.size) HB6.out HO16.out
    have hres := And.intro hres0.1.drew (hres0.2.trans (Kept.of_below _ _ ((Below.refl _ _).drew)))
    rw [← hV7] at hres
    have HRES := Lib.hid hres
    have hfar7 : ∀ b, b ≠ lb → V7.heap[b]? = V6.heap[b]? := fun b hne => by
      rw [hV7]
      exact (Below.heap_setCell _ ⟨lb, 5, none⟩ _ b hne).trans ((Below.heap_setCell _ ⟨lb, 4, none⟩ _ b hne).trans (Below.heap_setCell _ ⟨lb, 3, none⟩ _ b hne))
    have hsz7 : V7.heap.size = V6.heap.size := by rw [hV7]; simp [World.setCell, World.drew]
    have hrd7 : Rd V7 V7.heap.size 4 A2 rl.length (frs rl) := by
      rw [hsz7]
      exact rd_block (Rd.of_own HO26.out) fun p hp => hfar7 p.block fun e => HAP.out p hp (.inl e)
    rw [← hV7]
    clear hV7 hres hres0 x0 x1 x2 z0 z1 z2 hxg y0 y1 y2 u0 u1 u2 hlv hfar7 hsz7
    have hput := put_0 L lb (st1.setE 1 rs) (upd R1 1 A1) (upd C1 1 d1) V7 A2 rl.length d2 rl HRES.out.1 (by show (st1.u 0).length ≤ 4096; rw [HST1.out.2.1]; exact hu') (Nat.le_trans (Nat.le_trans hLW HKV.out.size) HRES.out.2.size) (Nat.le_trans HD.out.2.2.1 HD.out.2.2.2) hrd7 HAP.out
    have HPUT := Lib.hid hput
    clear hput hrd7
    go_wp2_with fail
    refine HPUT.out.mono ?_
    rintro e w8 ⟨rfl, R8, C8, hla8, hke8⟩
    have HKE8 : Hid (Kept lb R R8 W w8) := HKV.out.trans (HRES.out.2.trans hke8)
    clear hke8
    obtain ⟨st8, hst8⟩ : ∃ st8, st8 = (st1.setE 1 rs).setU 0 (putU ((st1.setE 1 rs).u 0) rl) := ⟨_, rfl⟩
    rw [← hst8] at hla8
    have HTK : Hid (tookK st1 1 ⟨rs, rm, rl, 0⟩ = if rm.size = 0 then st8 else st8.setG 1 (st1.g 1 ++ [rm])) := by rw [hst8]; rfl
    have HG8 : Hid (st8.g 1 = st1.g 1) := by rw [hst8]; rfl
    have HLA8 := Lib.hid hla8
    have hse := empty_iff rm
    clear hst8 hla8
    by_cases h0 : rm.size = 0
    · have hs0 : rm.toList = [] := hse.2 h0
      have htk := HTK.out
      rw [if_pos h0] at htk
      have HTK1 := Lib.hid htk
      clear hse h0 htk HTK
      go_wp2
      go_ret
      rw [HSK1.out]
      exact ⟨rfl, R8, C8, by rw [HTK1.out]; exact HLA8.out, HKE8.out⟩
    have hs0 : rm.toList.isEmpty = false := by rw [List.isEmpty_eq_false_iff]; exact fun e => h0 (hse.1 e)
    have htk := HTK.out
    rw [if_neg h0, ← HG8.out] at htk
    have HTK1 := Lib.hid htk
    clear hse h0 htk HTK
    have hL8 : L ≤ w8.heap.size := Nat.le_trans hLW HKE8.out.size
    have hgl : (st8.g 1).length ≤ 1099511627776 := by rw [HG8.out, HST1.out.2.2.1]; exact hg
    obtain ⟨uk, huk⟩ : ∃ uk, uk = st8.g 1 := ⟨_, rfl⟩
    rw [← huk] at hgl
    have HUK := Lib.hid huk
    have ho' : w8.ownsRow L 9 1 (.slice (R8 5) uk.length (C8 5)) uk.length (uk.map Value.string) := by
      rw [huk]
      simpa [rowTy, rowSz, rowLn, rowXs] using HLA8.out.own 5 (by omega)
    have HOW := Lib.hid ho'
    have q0 : w8.cell? ⟨lb, 9, none⟩ = some (.slice (R8 5) uk.length (C8 5)) := by rw [huk, HLA8.out.bk.cell]; simp [lkCells]
    have z0 := HLA8.out.bk.frozen 9
    have hlb := HLA8.out.bk.lt
    have HNL : Hid (some lb ≠ (Value.slice (R8 5) uk.length (C8 5)).ownBlock) := own_ne_bk HOW.out HLA8.out.bk (by decide)
    clear ho' huk
    obtain ⟨i0, hinf, hz0, hz1, hz2⟩ := info_parts info9
    have hry : Rd (w8.alloc (.cells #[.string rm] 9)) (w8.heap.size + 1) 1 (some ⟨w8.heap.size, 0, none⟩) 1 [.string rm] := ⟨rfl, fun _ => ⟨_, rfl, by simp, World.news_of_block (Bk.new w8 9 #[.string rm])⟩⟩
    have HRY := Lib.hid hry
    have fone : ∀ u ∈ [Value.string rm], u.oneCell' = true := by simp [Value.oneCell']
    clear hry
    have HS0 : Hid ((fun V => V.cell? ⟨lb, 9, none⟩ = some (.slice (R8 5) uk.length (C8 5))) w8.drew) := q0
    have HS1 : Hid ((fun V => V.cell? ⟨lb, 9, none⟩ = some (.slice (R8 5) uk.length (C8 5))) (w8.alloc (.cells #[.string rm] 9)).drew) := by
      show (w8.alloc (.cells #[.string rm] 9)).cell? ⟨lb, 9, none⟩ = _
      rw [World.cell?_alloc_lt _ _ _ hlb]
      exact q0
    go_upto_region 12 with (fail)
    refine region_anyL (fun V => V.cell? ⟨lb, 9, none⟩ = some (.slice (R8 5) uk.length (C8 5))) 14 (by kernel_rfl) ?_
    refine anyL_take (i := 0) (oi := { dst := some 88, op := Op.move (Operand.tmp 0), type := 24, pos := "link.go:102", after := #[], guard := none }) (v := ?_) rfl (by kernel_rfl) (by kernel_rfl) (by kernel_rfl) (by kernel_rfl) (fun _ _ _ h => h) (Or.inl ⟨by rfl, ?_⟩) (HS0.out) ?_
    rotate_left
    · intro w hSw
      try dsimp only at hSw
      have q0 := hSw
      first | (go_simp <;> fail) | (go_simp; with_reducible rfl)
    try simp only [Act.put, List.setIfInBounds_toArray, List.set_cons_zero, List.set_cons_succ]
    refine anyL_take (i := 1) (oi := { dst := some 89, op := Op.move (Operand.tmp 1), type := 3, pos := "link.go:102", after := #[], guard := none }) (v := ?_) rfl (by kernel_rfl) (by kernel_rfl) (by kernel_rfl) (by kernel_rfl) (fun _ _ _ h => h) (Or.inl ⟨by rfl, ?_⟩) (HS0.out) ?_
    rotate_left
    · intro w hSw
      try dsimp only at hSw
      have q0 := hSw
      first | (go_simp <;> fail) | (go_simp; with_reducible rfl)
    try simp only [Act.put, List.setIfInBounds_toArray, List.set_cons_zero, List.set_cons_succ]
    refine anyL_take (i := 2) (oi := { dst := some 90, op := Op.move (Operand.tmp 0), type := 24, pos := "link.go:102", after := #[], guard := none }) (v := ?_) rfl (by kernel_rfl) (by kernel_rfl) (by kernel_rfl) (by kernel_rfl) (fun _ _ _ h => h) (Or.inl ⟨by rfl, ?_⟩) (HS0.out) ?_
    rotate_left
    · intro w hSw
      try dsimp only at hSw
      have q0 := hSw
      first | (go_simp <;> fail) | (go_simp; with_reducible rfl)
    try simp only [Act.put, List.setIfInBounds_toArray, List.set_cons_zero, List.set_cons_succ]
    refine anyL_take (i := 3) (oi := { dst := some 91, op := Op.move (Operand.tmp 1), type := 3, pos := "link.go:102", after := #[], guard := none }) (v := ?_) rfl (by kernel_rfl) (by kernel_rfl) (by kernel_rfl) (by kernel_rfl) (fun _ _ _ h => h) (Or.inl ⟨by rfl, ?_⟩) (HS0.out) ?_
    rotate_left
    · intro w hSw
      try dsimp only at hSw
      have q0 := hSw
      first | (go_simp <;> fail) | (go_simp; with_reducible rfl)
    try simp only [Act.put, List.setIfInBounds_toArray, List.set_cons_zero, List.set_cons_succ]
    refine anyL_take (i := 4) (oi := { dst := some 92, op := Op.nilCheck (Operand.tmp 90), type := 0, pos := "link.go:102", after := #[{ on := 2, ground := Ground.data }], guard := none }) (v := ?_) rfl (by kernel_rfl) (by kernel_rfl) (by kernel_rfl) (by kernel_rfl) (fun _ _ _ h => h) (Or.inl ⟨by rfl, ?_⟩) (HS0.out) ?_
    rotate_left
    · intro w hSw
      try dsimp only at hSw
      have q0 := hSw
      first | (go_simp <;> fail) | (go_simp; with_reducible rfl)
    try simp only [Act.put, List.setIfInBounds_toArray, List.set_cons_zero, List.set_cons_succ]
    refine anyL_take (i := 5) (oi := { dst := some 93, op := Op.fieldAddr 58 (Operand.tmp 92) 2, type := 0, pos := "link.go:102", after := #[{ on := 4, ground := Ground.data }], guard := none }) (v := ?_) rfl (by kernel_rfl) (by kernel_rfl) (by kernel_rfl) (by kernel_rfl) (fun _ _ _ h => h) (Or.inl ⟨by rfl, ?_⟩) (HS0.out) ?_
    rotate_left
    · intro w hSw
      try dsimp only at hSw
      have q0 := hSw
      first | (go_simp <;> fail) | (go_simp; with_reducible rfl)
    try simp only [Act.put, List.setIfInBounds_toArray, List.set_cons_zero, List.set_cons_succ]
    refine anyL_take (i := 6) (oi := { dst := some 94, op := Op.indexAddr 50 (Operand.tmp 93) (Operand.tmp 91), type := 0, pos := "link.go:102", after := #[{ on := 5, ground := Ground.data }, { on := 3, ground := Ground.data }], guard := none }) (v := ?_) rfl (by kernel_rfl) (by kernel_rfl) (by kernel_rfl) (by kernel_rfl) (fun _ _ _ h => h) (Or.inl ⟨by rfl, ?_⟩) (HS0.out) ?_
    rotate_left
    · intro w hSw
      try dsimp only at hSw
      have q0 := hSw
      first | (go_simp <;> fail) | (go_simp; with_reducible rfl)
    try simp only [Act.put, List.setIfInBounds_toArray, List.set_cons_zero, List.set_cons_succ]
    refine anyL_take (i := 7) (oi := { dst := some 95, op := Op.load 30 (Operand.tmp 94), type := 30, pos := "link.go:102", after := #[{ on := 6, ground := Ground.data }], guard := none }) (v := ?_) rfl (by kernel_rfl) (by kernel_rfl) (by kernel_rfl) (by kernel_rfl) (fun _ _ _ h => h) (Or.inl ⟨by rfl, ?_⟩) (HS0.out) ?_
    rotate_left
    · intro w hSw
      try dsimp only at hSw
      have q0 := hSw
      first | (go_simp <;> fail) | (go_simp; with_reducible rfl)
    try simp only [Act.put, List.setIfInBounds_toArray, List.set_cons_zero, List.set_cons_succ]
    refine anyL_take (i := 8) (oi := { dst := some 96, op := Op.move (Operand.tmp 11), type := 9, pos := "link.go:102", after := #[], guard := none }) (v := ?_) rfl (by kernel_rfl) (by kernel_rfl) (by kernel_rfl) (by kernel_rfl) (fun _ _ _ h => h) (Or.inl ⟨by rfl, ?_⟩) (HS0.out) ?_
    rotate_left
    · intro w hSw
      try dsimp only at hSw
      have q0 := hSw
      first | (go_simp <;> fail) | (go_simp; with_reducible rfl)
    try simp only [Act.put, List.setIfInBounds_toArray, List.set_cons_zero, List.set_cons_succ]
    refine anyL_takeC [12, 13] (i := 11) (oi := { dst := some 99, op := Op.nilCheck (Operand.tmp 88), type := 0, pos := "link.go:102", after := #[{ on := 0, ground := Ground.data }], guard := none }) (v := ?_) rfl (by kernel_rfl) (by kernel_rfl) (by kernel_rfl) (by kernel_rfl) (by kernel_rfl) (fun _ _ _ h => h) (Or.inl ⟨by rfl, ?_⟩) (HS0.out) ?_
    rotate_left
    · intro w hSw
      try dsimp only at hSw
      have q0 := hSw
      first | (go_simp <;> fail) | (go_simp; with_reducible rfl)
    try simp only [Act.put, List.setIfInBounds_toArray, List.set_cons_zero, List.set_cons_succ]
    refine anyL_takeC [13] (i := 12) (oi := { dst := some 100, op := Op.fieldAddr 58 (Operand.tmp 99) 2, type := 0, pos := "link.go:102", after := #[{ on := 11, ground := Ground.data }], guard := none }) (v := ?_) rfl (by kernel_rfl) (by kernel_rfl) (by kernel_rfl) (by kernel_rfl) (by kernel_rfl) (fun _ _ _ h => h) (Or.inl ⟨by rfl, ?_⟩) (HS0.out) ?_
    rotate_left
    · intro w hSw
      try dsimp only at hSw
      have q0 := hSw
      first | (go_simp <;> fail) | (go_simp; with_reducible rfl)
    try simp only [Act.put, List.setIfInBounds_toArray, List.set_cons_zero, List.set_cons_succ]
    refine anyL_one (i := 9) (o := { dst := some 97, op := Op.buildSlice 30 1 #[(0, Operand.tmp 96)], type := 30, pos := "link.go:102", after := #[{ on := 8, ground := Ground.data }], guard := none }) (by kernel_rfl) rfl (fun K hK => ?_)
    go_simp
    refine hK.out _ _ (fun _ => HS1.out) ?_
    clear hK K
    try simp only [Act.put, List.setIfInBounds_toArray, List.set_cons_zero, List.set_cons_succ]
    refine anyL_one (i := 10) (o := { dst := some 98, op := Op.call { callee := Callee.builtin Builtin.append, args := #[Operand.tmp 95, Operand.tmp 97], argTypes := #[30, 30] }, type := 30, pos := "link.go:102", after := #[{ on := 7, ground := Ground.data }, { on := 9, ground := Ground.data }], guard := none }) (by kernel_rfl) rfl (fun K hK => ?_)
    refine step_append_rd _ rfl (.tmp 95) (.tmp 97) _ rfl L 9 i0 _ 1 16 Try.underlying30 hinf hz0 hz1 hz2 rfl (by omega) _ uk.length (uk.map Value.string) rfl (HOW.out.alloc _).drew (w8.heap.size + 1) _ 1 1 _ rfl HRY.out.drew fone (by unfold maxLen; omega) (by omega) (by simp; omega) ?_
    intro A9 c9 w9 h1 h2 hown1 hg1x hat1x
    have hg1 : ((w8.alloc (.cells #[.string rm] 9)).drew).grownBy w9 (Value.slice (R8 5) uk.length (C8 5)).ownBlock := hg1x
    have hat1 : (Value.slice A9 (uk.length + 1) c9).ownBlock = (Value.slice (R8 5) uk.length (C8 5)).ownBlock ∨ (Value.slice A9 (uk.length + 1) c9).ownBlock = some ((w8.alloc (.cells #[.string rm] 9)).drew).heap.size := hat1x
    clear hg1x hat1x
    have HLB3 : Hid (Bk w9 lb 58 (lkCells st8 R8 C8)) := ((HLA8.out.bk.alloc _).drew).grown hg1 HNL.out
    have q0 : w9.cell? ⟨lb, 9, none⟩ = some (.slice (R8 5) uk.length (C8 5)) := by rw [HLB3.out.cell, HUK.out]; simp [lkCells]
    have z0 := HLB3.out.frozen 9
    have hlb := HLB3.out.lt
    refine hK.out _ _ (fun _ => q0) ?_
    clear hK K
    try simp only [Act.put, List.setIfInBounds_toArray, List.set_cons_zero, List.set_cons_succ]
    refine anyL_take (i := 13) (oi := { dst := some 101, op := Op.indexAddr 50 (Operand.tmp 100) (Operand.tmp 89), type := 0, pos := "link.go:102", after := #[{ on := 12, ground := Ground.data }, { on := 1, ground := Ground.data }, { on := 0, ground := Ground.phase }, { on := 1, ground := Ground.phase }, { on := 2, ground := Ground.phase }, { on := 3, ground := Ground.phase }, { on := 4, ground := Ground.phase }, { on := 5, ground := Ground.phase }, { on := 6, ground := Ground.phase }, { on := 7, ground := Ground.phase }, { on := 8, ground := Ground.phase }, { on := 9, ground := Ground.phase }, { on := 10, ground := Ground.phase }], guard := none }) (v := ?_) rfl (by kernel_rfl) (by kernel_rfl) (by kernel_rfl) (by kernel_rfl) (fun _ _ _ h => h) (Or.inl ⟨by rfl, ?_⟩) (q0) ?_
    rotate_left
    · intro w hSw
      try dsimp only at hSw
      have q0 := hSw
      first | (go_simp <;> fail) | (go_simp; with_reducible rfl)
    try simp only [Act.put, List.setIfInBounds_toArray, List.set_cons_zero, List.set_cons_succ]
    refine anyL_one (i := 14) (o := { dst := none, op := Op.store 30 (Operand.tmp 101) (Operand.tmp 98), type := 0, pos := "link.go:102", after := #[{ on := 13, ground := Ground.data }, { on := 10, ground := Ground.data }, { on := 10, ground := Ground.chain }, { on := 0, ground := Ground.phase }, { on := 1, ground := Ground.phase }, { on := 2, ground := Ground.phase }, { on := 3, ground := Ground.phase }, { on := 4, ground := Ground.phase }, { on := 5, ground := Ground.phase }, { on := 6, ground := Ground.phase }, { on := 7, ground := Ground.phase }, { on := 8, ground := Ground.phase }, { on := 9, ground := Ground.phase }, { on := 10, ground := Ground.phase }], guard := none }) (by kernel_rfl) rfl (fun K hK => ?_)
    go_simp
    refine hK.out _ _ (fun h0 => absurd rfl h0) ?_
    clear hK K
    try simp only [Act.put, List.setIfInBounds_toArray, List.set_cons_zero, List.set_cons_succ]
    refine anyL_done (by kernel_rfl) ?_ _
    have hln : (uk ++ [rm]).length = uk.length + 1 := by simp
    have hst : uk = st8.g 1 := HUK.out
    have hres := LinkAt.app (st' := st8.setG 1 (st8.g 1 ++ [rm])) (j := 5) (ci := 9) (v := .slice A9 (uk.length + 1) c9) HLA8.out (by omega)
      (fun i hi hne => by
        have h6 : i = 0 ∨ i = 1 ∨ i = 2 ∨ i = 3 ∨ i = 4 ∨ i = 5 := by omega
        rcases h6 with rfl | rfl | rfl | rfl | rfl | rfl <;> first | exact absurd rfl hne | simp [rowLn, rowXs, Lk.setG, upd])
      (by rw [hst] at hown1; simpa [rowTy, rowSz, rowLn, rowXs, Lk.setG, upd] using hown1) (by rw [hst] at hg1; simpa [rowLn, Lk.setG, upd] using hg1) (by rw [hst] at hat1; simpa [rowLn, Lk.setG, upd] using hat1) (by rw [hst]; simp [lkCells, Lk.setG, upd])
    have HRES9 := Lib.hid hres
    clear hres hln hst hown1 hg1 hat1 q0 z0 hlb
    go_wp2
    go_ret
    rw [HSK1.out]
    exact ⟨rfl, _, _, by rw [HTK1.out]; exact HRES9.out.1, HKE8.out.trans HRES9.out.2⟩
  · rename_i hHx
    clear hHx
    obtain ⟨bs, hbs⟩ : ∃ bs, bs = V.heap.size := ⟨_, rfl⟩
    obtain ⟨V6, hV6⟩ : ∃ V6, V6 = ((w1.setCell ⟨V.heap.size, 0, none⟩ (.slice A1 rs.sent.length d1)).setCell ⟨V.heap.size, 1, none⟩ (.int .i64 rs.taken)).setCell ⟨V.heap.size, 2, none⟩ (.int .i64 rs.known) := ⟨_, rfl⟩
    have HBS : Hid (Bk V6 bs 33 #[.slice A1 rs.sent.length d1, .int .i64 rs.taken, .int .i64 rs.known]) := by
      rw [hV6, hbs]
      exact ((HNW.out.set 0 (.slice A1 rs.sent.length d1)).set 1 (.int .i64 rs.taken)).set 2 (.int .i64 rs.known)
    have HB6 : Hid (Below V.heap.size V V6) := by rw [hV6]; exact Below.setCell (Below.setCell (Below.setCell HW2.out (Nat.le_refl _) _) (Nat.le_refl _) _) (Nat.le_refl _) _
    have hz1 : (V.drew.alloc (.cells #[.slice none 0 0, .int .i64 0, .int .i64 0] 33)).heap.size = V.heap.size + 1 := by show (V.drew.heap.push _).size = _; rw [Array.size_push]; rfl
    have HO16 : Hid (V6.ownsRow V.heap.size 9 1 (.slice A1 rs.sent.length d1) rs.sent.length (rs.sent.map Value.string)) := by
      rw [hV6]
      refine own_mono (base := V.heap.size + 1) ?_ (by omega)
      repeat (refine ownsRow_setCell_below ?_ (by dsimp only; omega) _)
      rw [← hz1]
      exact HO1.out
    have HO26 : Hid (V6.ownsRow V.heap.size 44 4 (.slice A2 rl.length d2) rl.length (frs rl)) := by
      rw [hV6]
      refine own_mono (base := V.heap.size + 1) ?_ (by omega)
      repeat (refine ownsRow_setCell_below ?_ (by dsimp only; omega) _)
      rw [← hz1]
      exact HO2.out
    have hbsV : V.heap.size ≤ bs := by omega
    rw [← hV6]
    have hbs2 := hbs.symm
    rw [hbs2]
    clear hV6 hbs hbs2 hz1 HO1 HO2 HW2 HNW n0 n1 n2 y0 y1 y2 hng
    have HL6 : Hid (LinkAt L lb st1 R1 C1 V6) := HLV.out.over HB6.out
    have HKV6 : Hid (Kept lb R1 R1 V V6) := Kept.of_below _ _ HB6.out
    clear hbV hlbV hbfV
    by_cases her : re = 0
    case neg =>
      have hne : (re != 0) = true := by simpa using her
      have hne2 : (re == 0) = false := by simpa using her
      have hsk := HCK.out
      rw [if_neg her, HST1.out.2.2.2] at hsk
      have HSK1 := Lib.hid hsk
      clear hsk her
      go_wp2
      go_ret
      rw [HSK1.out]
      exact ⟨rfl, R1, C1, HL6.out, HKV.out.trans HKV6.out⟩
    subst her
    have hsk := HCK.out
    rw [if_pos rfl, HST1.out.2.2.2] at hsk
    have HSK1 := Lib.hid hsk
    clear hsk HCK
    have HAP := Lib.hid (apart_in HLV.out HO16.out HO26.out 1)
    have hblb := HL6.out.bk
    obtain ⟨x0, x1, x2, z0, z1, z2, hxg⟩ := HBS.out.three
    have y0 : V6.cell? ⟨lb, 3, none⟩ = some (.slice (R1 1) (st1.e 1).sent.length (C1 1)) := by rw [hblb.cell]; simp [lkCells]
    have y1 : V6.cell? ⟨lb, 4, none⟩ = some (.int .i64 (st1.e 1).taken) := by rw [hblb.cell]; simp [lkCells]
    have y2 : V6.cell? ⟨lb, 5, none⟩ = some (.int .i64 (st1.e 1).known) := by rw [hblb.cell]; simp [lkCells]
    have u0 := hblb.frozen 3
    have u1 := hblb.frozen 4
    have u2 := hblb.frozen 5
    have hlv := hblb.lt
    clear hblb
    have HS0 : Hid ((fun V => V.cell? ⟨bs, 0, none⟩ = some (.slice A1 rs.sent.length d1) ∧ V.cell? ⟨bs, 1, none⟩ = some (.int .i64 rs.taken) ∧ V.cell? ⟨bs, 2, none⟩ = some (.int .i64 rs.known)) V6.drew) := ⟨x0, x1, x2⟩
    go_upto_region 9 with (fail)
    refine region_anyL (fun V => V.cell? ⟨bs, 0, none⟩ = some (.slice A1 rs.sent.length d1) ∧ V.cell? ⟨bs, 1, none⟩ = some (.int .i64 rs.taken) ∧ V.cell? ⟨bs, 2, none⟩ = some (.int .i64 rs.known)) 6 (by kernel_rfl) ?_
    refine anyL_take (i := 0) (oi := { dst := some 75, op := Op.move (Operand.tmp 0), type := 24, pos := "link.go:99", after := #[], guard := none }) (v := ?_) rfl (by kernel_rfl) (by kernel_rfl) (by kernel_rfl) (by kernel_rfl) (fun _ _ _ h => h) (Or.inl ⟨by rfl, ?_⟩) (HS0.out) ?_
    rotate_left
    · intro w hSw
      try dsimp only at hSw
      obtain ⟨q0, q1, q2⟩ := hSw
      first | (go_simp <;> fail) | (go_simp; with_reducible rfl)
    try simp only [Act.put, List.setIfInBounds_toArray, List.set_cons_zero, List.set_cons_succ]
    refine anyL_take (i := 1) (oi := { dst := some 76, op := Op.move (Operand.tmp 1), type := 3, pos := "link.go:99", after := #[], guard := none }) (v := ?_) rfl (by kernel_rfl) (by kernel_rfl) (by kernel_rfl) (by kernel_rfl) (fun _ _ _ h => h) (Or.inl ⟨by rfl, ?_⟩) (HS0.out) ?_
    rotate_left
    · intro w hSw
      try dsimp only at hSw
      obtain ⟨q0, q1, q2⟩ := hSw
      first | (go_simp <;> fail) | (go_simp; with_reducible rfl)
    try simp only [Act.put, List.setIfInBounds_toArray, List.set_cons_zero, List.set_cons_succ]
    refine anyL_take (i := 2) (oi := { dst := some 77, op := Op.load 33 (Operand.tmp 10), type := 33, pos := "link.go:99", after := #[], guard := none }) (v := ?_) rfl (by kernel_rfl) (by kernel_rfl) (by kernel_rfl) (by kernel_rfl) (fun _ _ _ h => h) (Or.inl ⟨by rfl, ?_⟩) (HS0.out) ?_
    rotate_left
    · intro w hSw
      try dsimp only at hSw
      obtain ⟨q0, q1, q2⟩ := hSw
      first | (go_simp <;> fail) | (go_simp; with_reducible rfl)
    try simp only [Act.put, List.setIfInBounds_toArray, List.set_cons_zero, List.set_cons_succ]
    refine anyL_takeC [4, 5] (i := 3) (oi := { dst := some 78, op := Op.nilCheck (Operand.tmp 75), type := 0, pos := "link.go:99", after := #[{ on := 0, ground := Ground.data }], guard := none }) (v := ?_) rfl (by kernel_rfl) (by kernel_rfl) (by kernel_rfl) (by kernel_rfl) (by kernel_rfl) (fun _ _ _ h => h) (Or.inl ⟨by rfl, ?_⟩) (HS0.out) ?_
    rotate_left
    · intro w hSw
      try dsimp only at hSw
      obtain ⟨q0, q1, q2⟩ := hSw
      first | (go_simp <;> fail) | (go_simp; with_reducible rfl)
    try simp only [Act.put, List.setIfInBounds_toArray, List.set_cons_zero, List.set_cons_succ]
    refine anyL_takeC [5] (i := 4) (oi := { dst := some 79, op := Op.fieldAddr 58 (Operand.tmp 78) 0, type := 0, pos := "link.go:99", after := #[{ on := 3, ground := Ground.data }], guard := none }) (v := ?_) rfl (by kernel_rfl) (by kernel_rfl) (by kernel_rfl) (by kernel_rfl) (by kernel_rfl) (fun _ _ _ h => h) (Or.inl ⟨by rfl, ?_⟩) (HS0.out) ?_
    rotate_left
    · intro w hSw
      try dsimp only at hSw
      obtain ⟨q0, q1, q2⟩ := hSw
      first | (go_simp <;> fail) | (go_simp; with_reducible rfl)
    try simp only [Act.put, List.setIfInBounds_toArray, List.set_cons_zero, List.set_cons_succ]
    refine anyL_take (i := 5) (oi := { dst := some 80, op := Op.indexAddr 48 (Operand.tmp 79) (Operand.tmp 76), type := 0, pos := "link.go:99", after := #[{ on := 4, ground := Ground.data }, { on := 1, ground := Ground.data }, { on := 0, ground := Ground.phase }, { on := 1, ground := Ground.phase }, { on := 2, ground := Ground.phase }], guard := none }) (v := ?_) rfl (by kernel_rfl) (by kernel_rfl) (by kernel_rfl) (by kernel_rfl) (fun _ _ _ h => h) (Or.inl ⟨by rfl, ?_⟩) (HS0.out) ?_
    rotate_left
    · intro w hSw
      try dsimp only at hSw
      obtain ⟨q0, q1, q2⟩ := hSw
      first | (go_simp <;> fail) | (go_simp; with_reducible rfl)
    try simp only [Act.put, List.setIfInBounds_toArray, List.set_cons_zero, List.set_cons_succ]
    refine anyL_one (i := 6) (o := { dst := none, op := Op.store 33 (Operand.tmp 80) (Operand.tmp 77), type := 0, pos := "link.go:99", after := #[{ on := 5, ground := Ground.data }, { on := 2, ground := Ground.data }, { on := 0, ground := Ground.phase }, { on := 1, ground := Ground.phase }, { on := 2, ground := Ground.phase }], guard := none }) (by kernel_rfl) rfl (fun K hK => ?_)
    go_simp
    refine hK.out _ _ (fun h0 => absurd rfl h0) ?_
    clear hK K
    try simp only [Act.put, List.setIfInBounds_toArray, List.set_cons_zero, List.set_cons_succ]
    refine anyL_done (by kernel_rfl) ?_ _
    obtain ⟨V7, hV7⟩ : ∃ V7, V7 = (((V6.setCell ⟨lb, 3, none⟩ (.slice A1 rs.sent.length d1)).setCell ⟨lb, 4, none⟩ (.int .i64 rs.taken)).setCell ⟨lb, 5, none⟩ (.int .i64 rs.known)).drew := ⟨_, rfl⟩
    have hres0 := LinkAt.end1 (s' := rs) (V := V6) HLV.out (Nat.le_trans hLW HKV.out.size) HB6.out HO16.out
    have hres := And.intro hres0.1.drew (hres0.2.trans (Kept.of_below _ _ ((Below.refl _ _).drew)))
    rw [← hV7] at hres
    have HRES := Lib.hid hres
    have hfar7 : ∀ b, b ≠ lb → V7.heap[b]? = V6.heap[b]? := fun b hne => by
      rw [hV7]
      exact (Below.heap_setCell _ ⟨lb, 5, none⟩ _ b hne).trans ((Below.heap_setCell _ ⟨lb, 4, none⟩ _ b hne).trans (Below.heap_setCell _ ⟨lb, 3, none⟩ _ b hne))
    have hsz7 : V7.heap.size = V6.heap.size := by rw [hV7]; simp [World.setCell, World.drew]
    have hrd7 : Rd V7 V7.heap.size 4 A2 rl.length (frs rl) := by
      rw [hsz7]
      exact rd_block (Rd.of_own HO26.out) fun p hp => hfar7 p.block fun e => HAP.out p hp (.inl e)
    rw [← hV7]
    clear hV7 hres hres0 x0 x1 x2 z0 z1 z2 hxg y0 y1 y2 u0 u1 u2 hlv hfar7 hsz7
    have hput := put_0 L lb (st1.setE 1 rs) (upd R1 1 A1) (upd C1 1 d1) V7 A2 rl.length d2 rl HRES.out.1 (by show (st1.u 0).length ≤ 4096; rw [HST1.out.2.1]; exact hu') (Nat.le_trans (Nat.le_trans hLW HKV.out.size) HRES.out.2.size) (Nat.le_trans HD.out.2.2.1 HD.out.2.2.2) hrd7 HAP.out
    have HPUT := Lib.hid hput
    clear hput hrd7
    go_wp2_with fail
    refine HPUT.out.mono ?_
    rintro e w8 ⟨rfl, R8, C8, hla8, hke8⟩
    have HKE8 : Hid (Kept lb R R8 W w8) := HKV.out.trans (HRES.out.2.trans hke8)
    clear hke8
    obtain ⟨st8, hst8⟩ : ∃ st8, st8 = (st1.setE 1 rs).setU 0 (putU ((st1.setE 1 rs).u 0) rl) := ⟨_, rfl⟩
    rw [← hst8] at hla8
    have HTK : Hid (tookK st1 1 ⟨rs, rm, rl, 0⟩ = if rm.size = 0 then st8 else st8.setG 1 (st1.g 1 ++ [rm])) := by rw [hst8]; rfl
    have HG8 : Hid (st8.g 1 = st1.g 1) := by rw [hst8]; rfl
    have HLA8 := Lib.hid hla8
    have hse := empty_iff rm
    clear hst8 hla8
    by_cases h0 : rm.size = 0
    · have hs0 : rm.toList = [] := hse.2 h0
      have htk := HTK.out
      rw [if_pos h0] at htk
      have HTK1 := Lib.hid htk
      clear hse h0 htk HTK
      go_wp2
      go_ret
      rw [HSK1.out]
      exact ⟨rfl, R8, C8, by rw [HTK1.out]; exact HLA8.out, HKE8.out⟩
    have hs0 : rm.toList.isEmpty = false := by rw [List.isEmpty_eq_false_iff]; exact fun e => h0 (hse.1 e)
    have htk := HTK.out
    rw [if_neg h0, ← HG8.out] at htk
    have HTK1 := Lib.hid htk
    clear hse h0 htk HTK
    have hL8 : L ≤ w8.heap.size := Nat.le_trans hLW HKE8.out.size
    have hgl : (st8.g 1).length ≤ 1099511627776 := by rw [HG8.out, HST1.out.2.2.1]; exact hg
    obtain ⟨uk, huk⟩ : ∃ uk, uk = st8.g 1 := ⟨_, rfl⟩
    rw [← huk] at hgl
    have HUK := Lib.hid huk
    have ho' : w8.ownsRow L 9 1 (.slice (R8 5) uk.length (C8 5)) uk.length (uk.map Value.string) := by
      rw [huk]
      simpa [rowTy, rowSz, rowLn, rowXs] using HLA8.out.own 5 (by omega)
    have HOW := Lib.hid ho'
    have q0 : w8.cell? ⟨lb, 9, none⟩ = some (.slice (R8 5) uk.length (C8 5)) := by rw [huk, HLA8.out.bk.cell]; simp [lkCells]
    have z0 := HLA8.out.bk.frozen 9
    have hlb := HLA8.out.bk.lt
    have HNL : Hid (some lb ≠ (Value.slice (R8 5) uk.length (C8 5)).ownBlock) := own_ne_bk HOW.out HLA8.out.bk (by decide)
    clear ho' huk
    obtain ⟨i0, hinf, hz0, hz1, hz2⟩ := info_parts info9
    have hry : Rd (w8.alloc (.cells #[.string rm] 9)) (w8.heap.size + 1) 1 (some ⟨w8.heap.size, 0, none⟩) 1 [.string rm] := ⟨rfl, fun _ => ⟨_, rfl, by simp, World.news_of_block (Bk.new w8 9 #[.string rm])⟩⟩
    have HRY := Lib.hid hry
    have fone : ∀ u ∈ [Value.string rm], u.oneCell' = true := by simp [Value.oneCell']
    clear hry
    have HS0 : Hid ((fun V => V.cell? ⟨lb, 9, none⟩ = some (.slice (R8 5) uk.length (C8 5))) w8.drew) := q0
    have HS1 : Hid ((fun V => V.cell? ⟨lb, 9, none⟩ = some (.slice (R8 5) uk.length (C8 5))) (w8.alloc (.cells #[.string rm] 9)).drew) := by
      show (w8.alloc (.cells #[.string rm] 9)).cell? ⟨lb, 9, none⟩ = _
      rw [World.cell?_alloc_lt _ _ _ hlb]
      exact q0
    go_upto_region 12 with (fail)
    refine region_anyL (fun V => V.cell? ⟨lb, 9, none⟩ = some (.slice (R8 5) uk.length (C8 5))) 14 (by kernel_rfl) ?_
    refine anyL_take (i := 0) (oi := { dst := some 88, op := Op.move (Operand.tmp 0), type := 24, pos := "link.go:102", after := #[], guard := none }) (v := ?_) rfl (by kernel_rfl) (by kernel_rfl) (by kernel_rfl) (by kernel_rfl) (fun _ _ _ h => h) (Or.inl ⟨by rfl, ?_⟩) (HS0.out) ?_
    rotate_left
    · intro w hSw
      try dsimp only at hSw
      have q0 := hSw
      first | (go_simp <;> fail) | (go_simp; with_reducible rfl)
    try simp only [Act.put, List.setIfInBounds_toArray, List.set_cons_zero, List.set_cons_succ]
    refine anyL_take (i := 1) (oi := { dst := some 89, op := Op.move (Operand.tmp 1), type := 3, pos := "link.go:102", after := #[], guard := none }) (v := ?_) rfl (by kernel_rfl) (by kernel_rfl) (by kernel_rfl) (by kernel_rfl) (fun _ _ _ h => h) (Or.inl ⟨by rfl, ?_⟩) (HS0.out) ?_
    rotate_left
    · intro w hSw
      try dsimp only at hSw
      have q0 := hSw
      first | (go_simp <;> fail) | (go_simp; with_reducible rfl)
    try simp only [Act.put, List.setIfInBounds_toArray, List.set_cons_zero, List.set_cons_succ]
    refine anyL_take (i := 2) (oi := { dst := some 90, op := Op.move (Operand.tmp 0), type := 24, pos := "link.go:102", after := #[], guard := none }) (v := ?_) rfl (by kernel_rfl) (by kernel_rfl) (by kernel_rfl) (by kernel_rfl) (fun _ _ _ h => h) (Or.inl ⟨by rfl, ?_⟩) (HS0.out) ?_
    rotate_left
    · intro w hSw
      try dsimp only at hSw
      have q0 := hSw
      first | (go_simp <;> fail) | (go_simp; with_reducible rfl)
    try simp only [Act.put, List.setIfInBounds_toArray, List.set_cons_zero, List.set_cons_succ]
    refine anyL_take (i := 3) (oi := { dst := some 91, op := Op.move (Operand.tmp 1), type := 3, pos := "link.go:102", after := #[], guard := none }) (v := ?_) rfl (by kernel_rfl) (by kernel_rfl) (by kernel_rfl) (by kernel_rfl) (fun _ _ _ h => h) (Or.inl ⟨by rfl, ?_⟩) (HS0.out) ?_
    rotate_left
    · intro w hSw
      try dsimp only at hSw
      have q0 := hSw
      first | (go_simp <;> fail) | (go_simp; with_reducible rfl)
    try simp only [Act.put, List.setIfInBounds_toArray, List.set_cons_zero, List.set_cons_succ]
    refine anyL_take (i := 4) (oi := { dst := some 92, op := Op.nilCheck (Operand.tmp 90), type := 0, pos := "link.go:102", after := #[{ on := 2, ground := Ground.data }], guard := none }) (v := ?_) rfl (by kernel_rfl) (by kernel_rfl) (by kernel_rfl) (by kernel_rfl) (fun _ _ _ h => h) (Or.inl ⟨by rfl, ?_⟩) (HS0.out) ?_
    rotate_left
    · intro w hSw
      try dsimp only at hSw
      have q0 := hSw
      first | (go_simp <;> fail) | (go_simp; with_reducible rfl)
    try simp only [Act.put, List.setIfInBounds_toArray, List.set_cons_zero, List.set_cons_succ]
    refine anyL_take (i := 5) (oi := { dst := some 93, op := Op.fieldAddr 58 (Operand.tmp 92) 2, type := 0, pos := "link.go:102", after := #[{ on := 4, ground := Ground.data }], guard := none }) (v := ?_) rfl (by kernel_rfl) (by kernel_rfl) (by kernel_rfl) (by kernel_rfl) (fun _ _ _ h => h) (Or.inl ⟨by rfl, ?_⟩) (HS0.out) ?_
    rotate_left
    · intro w hSw
      try dsimp only at hSw
      have q0 := hSw
      first | (go_simp <;> fail) | (go_simp; with_reducible rfl)
    try simp only [Act.put, List.setIfInBounds_toArray, List.set_cons_zero, List.set_cons_succ]
    refine anyL_take (i := 6) (oi := { dst := some 94, op := Op.indexAddr 50 (Operand.tmp 93) (Operand.tmp 91), type := 0, pos := "link.go:102", after := #[{ on := 5, ground := Ground.data }, { on := 3, ground := Ground.data }], guard := none }) (v := ?_) rfl (by kernel_rfl) (by kernel_rfl) (by kernel_rfl) (by kernel_rfl) (fun _ _ _ h => h) (Or.inl ⟨by rfl, ?_⟩) (HS0.out) ?_
    rotate_left
    · intro w hSw
      try dsimp only at hSw
      have q0 := hSw
      first | (go_simp <;> fail) | (go_simp; with_reducible rfl)
    try simp only [Act.put, List.setIfInBounds_toArray, List.set_cons_zero, List.set_cons_succ]
    refine anyL_take (i := 7) (oi := { dst := some 95, op := Op.load 30 (Operand.tmp 94), type := 30, pos := "link.go:102", after := #[{ on := 6, ground := Ground.data }], guard := none }) (v := ?_) rfl (by kernel_rfl) (by kernel_rfl) (by kernel_rfl) (by kernel_rfl) (fun _ _ _ h => h) (Or.inl ⟨by rfl, ?_⟩) (HS0.out) ?_
    rotate_left
    · intro w hSw
      try dsimp only at hSw
      have q0 := hSw
      first | (go_simp <;> fail) | (go_simp; with_reducible rfl)
    try simp only [Act.put, List.setIfInBounds_toArray, List.set_cons_zero, List.set_cons_succ]
    refine anyL_take (i := 8) (oi := { dst := some 96, op := Op.move (Operand.tmp 11), type := 9, pos := "link.go:102", after := #[], guard := none }) (v := ?_) rfl (by kernel_rfl) (by kernel_rfl) (by kernel_rfl) (by kernel_rfl) (fun _ _ _ h => h) (Or.inl ⟨by rfl, ?_⟩) (HS0.out) ?_
    rotate_left
    · intro w hSw
      try dsimp only at hSw
      have q0 := hSw
      first | (go_simp <;> fail) | (go_simp; with_reducible rfl)
    try simp only [Act.put, List.setIfInBounds_toArray, List.set_cons_zero, List.set_cons_succ]
    refine anyL_takeC [12, 13] (i := 11) (oi := { dst := some 99, op := Op.nilCheck (Operand.tmp 88), type := 0, pos := "link.go:102", after := #[{ on := 0, ground := Ground.data }], guard := none }) (v := ?_) rfl (by kernel_rfl) (by kernel_rfl) (by kernel_rfl) (by kernel_rfl) (by kernel_rfl) (fun _ _ _ h => h) (Or.inl ⟨by rfl, ?_⟩) (HS0.out) ?_
    rotate_left
    · intro w hSw
      try dsimp only at hSw
      have q0 := hSw
      first | (go_simp <;> fail) | (go_simp; with_reducible rfl)
    try simp only [Act.put, List.setIfInBounds_toArray, List.set_cons_zero, List.set_cons_succ]
    refine anyL_takeC [13] (i := 12) (oi := { dst := some 100, op := Op.fieldAddr 58 (Operand.tmp 99) 2, type := 0, pos := "link.go:102", after := #[{ on := 11, ground := Ground.data }], guard := none }) (v := ?_) rfl (by kernel_rfl) (by kernel_rfl) (by kernel_rfl) (by kernel_rfl) (by kernel_rfl) (fun _ _ _ h => h) (Or.inl ⟨by rfl, ?_⟩) (HS0.out) ?_
    rotate_left
    · intro w hSw
      try dsimp only at hSw
      have q0 := hSw
      first | (go_simp <;> fail) | (go_simp; with_reducible rfl)
    try simp only [Act.put, List.setIfInBounds_toArray, List.set_cons_zero, List.set_cons_succ]
    refine anyL_one (i := 9) (o := { dst := some 97, op := Op.buildSlice 30 1 #[(0, Operand.tmp 96)], type := 30, pos := "link.go:102", after := #[{ on := 8, ground := Ground.data }], guard := none }) (by kernel_rfl) rfl (fun K hK => ?_)
    go_simp
    refine hK.out _ _ (fun _ => HS1.out) ?_
    clear hK K
    try simp only [Act.put, List.setIfInBounds_toArray, List.set_cons_zero, List.set_cons_succ]
    refine anyL_one (i := 10) (o := { dst := some 98, op := Op.call { callee := Callee.builtin Builtin.append, args := #[Operand.tmp 95, Operand.tmp 97], argTypes := #[30, 30] }, type := 30, pos := "link.go:102", after := #[{ on := 7, ground := Ground.data }, { on := 9, ground := Ground.data }], guard := none }) (by kernel_rfl) rfl (fun K hK => ?_)
    refine step_append_rd _ rfl (.tmp 95) (.tmp 97) _ rfl L 9 i0 _ 1 16 Try.underlying30 hinf hz0 hz1 hz2 rfl (by omega) _ uk.length (uk.map Value.string) rfl (HOW.out.alloc _).drew (w8.heap.size + 1) _ 1 1 _ rfl HRY.out.drew fone (by unfold maxLen; omega) (by omega) (by simp; omega) ?_
    intro A9 c9 w9 h1 h2 hown1 hg1x hat1x
    have hg1 : ((w8.alloc (.cells #[.string rm] 9)).drew).grownBy w9 (Value.slice (R8 5) uk.length (C8 5)).ownBlock := hg1x
    have hat1 : (Value.slice A9 (uk.length + 1) c9).ownBlock = (Value.slice (R8 5) uk.length (C8 5)).ownBlock ∨ (Value.slice A9 (uk.length + 1) c9).ownBlock = some ((w8.alloc (.cells #[.string rm] 9)).drew).heap.size := hat1x
    clear hg1x hat1x
    have HLB3 : Hid (Bk w9 lb 58 (lkCells st8 R8 C8)) := ((HLA8.out.bk.alloc _).drew).grown hg1 HNL.out
    have q0 : w9.cell? ⟨lb, 9, none⟩ = some (.slice (R8 5) uk.length (C8 5)) := by rw [HLB3.out.cell, HUK.out]; simp [lkCells]
    have z0 := HLB3.out.frozen 9
    have hlb := HLB3.out.lt
    refine hK.out _ _ (fun _ => q0) ?_
    clear hK K
    try simp only [Act.put, List.setIfInBounds_toArray, List.set_cons_zero, List.set_cons_succ]
    refine anyL_take (i := 13) (oi := { dst := some 101, op := Op.indexAddr 50 (Operand.tmp 100) (Operand.tmp 89), type := 0, pos := "link.go:102", after := #[{ on := 12, ground := Ground.data }, { on := 1, ground := Ground.data }, { on := 0, ground := Ground.phase }, { on := 1, ground := Ground.phase }, { on := 2, ground := Ground.phase }, { on := 3, ground := Ground.phase }, { on := 4, ground := Ground.phase }, { on := 5, ground := Ground.phase }, { on := 6, ground := Ground.phase }, { on := 7, ground := Ground.phase }, { on := 8, ground := Ground.phase }, { on := 9, ground := Ground.phase }, { on := 10, ground := Ground.phase }], guard := none }) (v := ?_) rfl (by kernel_rfl) (by kernel_rfl) (by kernel_rfl) (by kernel_rfl) (fun _ _ _ h => h) (Or.inl ⟨by rfl, ?_⟩) (q0) ?_
    rotate_left
    · intro w hSw
      try dsimp only at hSw
      have q0 := hSw
      first | (go_simp <;> fail) | (go_simp; with_reducible rfl)
    try simp only [Act.put, List.setIfInBounds_toArray, List.set_cons_zero, List.set_cons_succ]
    refine anyL_one (i := 14) (o := { dst := none, op := Op.store 30 (Operand.tmp 101) (Operand.tmp 98), type := 0, pos := "link.go:102", after := #[{ on := 13, ground := Ground.data }, { on := 10, ground := Ground.data }, { on := 10, ground := Ground.chain }, { on := 0, ground := Ground.phase }, { on := 1, ground := Ground.phase }, { on := 2, ground := Ground.phase }, { on := 3, ground := Ground.phase }, { on := 4, ground := Ground.phase }, { on := 5, ground := Ground.phase }, { on := 6, ground := Ground.phase }, { on := 7, ground := Ground.phase }, { on := 8, ground := Ground.phase }, { on := 9, ground := Ground.phase }, { on := 10, ground := Ground.phase }], guard := none }) (by kernel_rfl) rfl (fun K hK => ?_)
    go_simp
    refine hK.out _ _ (fun h0 => absurd rfl h0) ?_
    clear hK K
    try simp only [Act.put, List.setIfInBounds_toArray, List.set_cons_zero, List.set_cons_succ]
    refine anyL_done (by kernel_rfl) ?_ _
    have hln : (uk ++ [rm]).length = uk.length + 1 := by simp
    have hst : uk = st8.g 1 := HUK.out
    have hres := LinkAt.app (st' := st8.setG 1 (st8.g 1 ++ [rm])) (j := 5) (ci := 9) (v := .slice A9 (uk.length + 1) c9) HLA8.out (by omega)
      (fun i hi hne => by
        have h6 : i = 0 ∨ i = 1 ∨ i = 2 ∨ i = 3 ∨ i = 4 ∨ i = 5 := by omega
        rcases h6 with rfl | rfl | rfl | rfl | rfl | rfl <;> first | exact absurd rfl hne | simp [rowLn, rowXs, Lk.setG, upd])
      (by rw [hst] at hown1; simpa [rowTy, rowSz, rowLn, rowXs, Lk.setG, upd] using hown1) (by rw [hst] at hg1; simpa [rowLn, Lk.setG, upd] using hg1) (by rw [hst] at hat1; simpa [rowLn, Lk.setG, upd] using hat1) (by rw [hst]; simp [lkCells, Lk.setG, upd])
    have HRES9 := Lib.hid hres
    clear hres hln hst hown1 hg1 hat1 q0 z0 hlb
    go_wp2
    go_ret
    rw [HSK1.out]
    exact ⟨rfl, _, _, by rw [HTK1.out]; exact HRES9.out.1, HKE8.out.trans HRES9.out.2⟩

end Go.Proofs.Ytnbndhmdfheikaa
