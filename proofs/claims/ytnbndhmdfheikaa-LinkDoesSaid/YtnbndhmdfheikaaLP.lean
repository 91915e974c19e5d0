/- Walk of put, at each end. By gen_lp.py. -/
import Derived.Test.YtnbndhmdfheikaaLM
namespace Go.Proofs.Ytnbndhmdfheikaa
open Go.RowKit

set_option maxHeartbeats 4000000 in
set_option maxRecDepth 100000 in
theorem put_0 (L lb : Nat) (st : Lk) (R : Nat → Option Addr) (C : Nat → Nat) (W : World) (A : Option Addr) (n c : Nat) (fl : List Fr) (hl : LinkAt L lb st R C W) (hu : (st.u 0).length ≤ 4096) (hLW : L ≤ W.heap.size) (hn : n ≤ maxLen)
    (hr : Rd W W.heap.size 4 A n (frs fl)) (hA : ∀ p, A = some p → ¬ inLink lb R p.block) :
    Calls Try.prog 28 #[.pointer (some ⟨lb, 0, none⟩), .int .i64 0, .slice A n c] W fun e W' => e = .returned (.tuple #[]) ∧ LOut L lb R W (st.setU 0 (putU (st.u 0) fl)) W' := by
  have hfl : fl.length = n := by have := hr.1; rw [frs_len] at this; omega
  have HFL := Lib.hid hfl
  have HRD : Hid (∀ R' V, Kept lb R R' W V → Rd V W.heap.size 4 A n (frs fl)) := fun R' V hk => by
    by_cases h0 : 0 < n
    · obtain ⟨a, e, hb, _⟩ := hr.2 h0
      exact rd_block hr fun p hp => hk.block p.block (by rw [e] at hp; injection hp with hp; subst hp; exact hb) (hA p hp)
    · have e0 : n = 0 := by omega
      have e1 : frs fl = [] := List.eq_nil_of_length_eq_zero (by rw [hr.1, e0, Nat.zero_mul])
      rw [e0, e1]
      exact Rd.nil _ _ _ _
  have HL0 := Lib.hid hl
  obtain ⟨ul, hul⟩ : ∃ ul, ul = st.u 0 := ⟨_, rfl⟩
  have HU : Hid (∀ k, (putU ul (fl.take k)).length ≤ 4096) := fun k => putU_len _ _ (by rw [hul]; exact hu)
  rw [← hul]
  have HUL := Lib.hid hul
  clear hl hr hA hfl hu hul
  unfold maxLen at hn
  go_enter Try.func28, Try.ntmps28
  go_wp2
  go_loopw [10] (fun i wr => ∃ (k : Nat) (R' : Nat → Option Addr) (C' : Nat → Nat), k ≤ n ∧ i = .int .i64 k ∧ LinkAt L lb (st.setU 0 (putU ul (fl.take k))) R' C' wr ∧ Kept lb R R' W wr) (fun i _ => n - (intOf i).toNat)
  case atStart =>
    refine ⟨0, R, C, Nat.zero_le _, rfl, ?_, Kept.refl _ _ _⟩
    have e : st.setU 0 (putU ul (fl.take 0)) = st := by
      show Lk.mk st.e (upd st.u 0 (putU ul [])) st.g = st
      rw [putU_nil, HUL.out]
      have : upd st.u 0 (st.u 0) = st.u := by funext j; unfold upd; split <;> simp_all
      rw [this]
    rw [e]
    exact HL0.out
  case round =>
    obtain ⟨k, R1, C1, hk, rfl, hla, hke⟩ := hrel
    have HLA := Lib.hid hla
    have HKE := Lib.hid hke
    clear hla hke
    rename World => V
    by_cases hlt : k < n
    · have hkl : k < fl.length := by have := HFL.out; omega
      obtain ⟨a0, hA0, _, c0, c1, c2, c3⟩ := (HRD.out R1 V HKE.out).frame hkl
      obtain ⟨⟨fk, fn, ft, fb⟩, hx⟩ : ∃ x, x = fl[k] := ⟨_, rfl⟩
      rw [← hx] at c0 c1 c2 c3
      dsimp only at c0 c1 c2 c3
      have htk : fl.take (k + 1) = fl.take k ++ [⟨fk, fn, ft, fb⟩] := by rw [List.take_add_one, List.getElem?_eq_getElem hkl, ← hx]; rfl
      have HTK := Lib.hid htk
      subst hA0
      clear hx htk
      have hub := HU.out k
      obtain ⟨uk, huk⟩ : ∃ uk, uk = putU ul (fl.take k) := ⟨_, rfl⟩
      rw [← huk] at hub
      have HUK := Lib.hid huk
      rw [← huk] at HLA
      clear huk
      have i1 : (k : Int) < (n : Int) := by omega
      have i2 : (0 : Int) ≤ (k : Int) := by omega
      have i4 : IntKind.i64.wrap ((k : Int) + 1) = (k : Int) + 1 := IntWalk.i64_in _ (by omega)
      obtain ⟨V3, hV3⟩ : ∃ V3, V3 = V.alloc (.cells #[.int .i64 fk, .int .i64 fn, .int .i64 ft, .string fb] 44) := ⟨_, rfl⟩
      obtain ⟨bf, hbf⟩ : ∃ bf, bf = V.heap.size := ⟨_, rfl⟩
      have HBF : Hid (Bk V3 bf 44 #[.int .i64 fk, .int .i64 fn, .int .i64 ft, .string fb]) := by rw [hV3, hbf]; exact Bk.new _ _ _
      have HLA3 : Hid (LinkAt L lb (st.setU 0 uk) R1 C1 V3) := by rw [hV3]; exact HLA.out.alloc _
      have HKE3 : Hid (Kept lb R R1 W V3) := by rw [hV3]; exact HKE.out.trans (Kept.of_below _ _ ((Below.refl _ V).alloc (Nat.le_refl _) _))
      have hLV : L ≤ V3.heap.size := Nat.le_trans hLW HKE3.out.size
      have hown := HLA3.out.own 2 (by omega)
      have q0 : V3.cell? ⟨lb, 6, none⟩ = some (.slice (R1 2) uk.length (C1 2)) := by rw [HLA3.out.bk.cell]; simp [lkCells, Lk.setU, upd]
      have z0 := HLA3.out.bk.frozen 6
      have hlb := HLA3.out.bk.lt
      have ho' : V3.ownsRow L 44 4 (.slice (R1 2) uk.length (C1 2)) uk.length (frs uk) := by
        have := hown
        simpa [rowTy, rowSz, rowLn, rowXs, Lk.setU, upd] using this
      have HOW := Lib.hid ho'
      have HNF0 : Hid (some bf ≠ (Value.slice (R1 2) uk.length (C1 2)).ownBlock) := by
        have h0 := HLA.out.own 2 (by omega)
        rw [hbf]
        have h1 : V.ownsRow L 44 4 (.slice (R1 2) uk.length (C1 2)) uk.length (frs uk) := by simpa [rowTy, rowSz, rowLn, rowXs, Lk.setU, upd] using h0
        exact own_ne_ge h1 (Nat.le_refl _)
      go_upto_region 3 with (fail)
      rw [← hV3, ← hbf]
      clear hV3 hbf c0 c1 c2 c3 hown ho'
      obtain ⟨x0, x1, x2, x3, e0, e1, e2, e3, hxg⟩ := HBF.out.four
      by_cases hfull : uk.length < 4096
      · have i5 : (uk.length : Int) < 4096 := by omega
        obtain ⟨i0, hinf, hz0, hz1, hz2⟩ := info_parts info44
        have hry : Rd (V3.alloc (.cells #[.int .i64 fk, .int .i64 fn, .int .i64 ft, .string fb] 44)) (V3.heap.size + 1) 4 (some ⟨V3.heap.size, 0, none⟩) 1 (Fr.cells ⟨fk, fn, ft, fb⟩) := ⟨rfl, fun _ => ⟨_, rfl, by simp, World.news_of_block (Bk.new V3 44 #[.int .i64 fk, .int .i64 fn, .int .i64 ft, .string fb])⟩⟩
        have HRY := Lib.hid hry
        have fone := fcells_one ⟨fk, fn, ft, fb⟩
        clear hry
        have HS0 : Hid ((fun V => V.cell? ⟨lb, 6, none⟩ = some (.slice (R1 2) uk.length (C1 2)) ∧ V.cell? ⟨bf, 0, none⟩ = some (.int .i64 fk) ∧ V.cell? ⟨bf, 1, none⟩ = some (.int .i64 fn) ∧ V.cell? ⟨bf, 2, none⟩ = some (.int .i64 ft) ∧ V.cell? ⟨bf, 3, none⟩ = some (.string fb)) V3.drew) := ⟨q0, x0, x1, x2, x3⟩
        have HS1 : Hid ((fun V => V.cell? ⟨lb, 6, none⟩ = some (.slice (R1 2) uk.length (C1 2)) ∧ V.cell? ⟨bf, 0, none⟩ = some (.int .i64 fk) ∧ V.cell? ⟨bf, 1, none⟩ = some (.int .i64 fn) ∧ V.cell? ⟨bf, 2, none⟩ = some (.int .i64 ft) ∧ V.cell? ⟨bf, 3, none⟩ = some (.string fb)) (V3.alloc (.cells #[.int .i64 fk, .int .i64 fn, .int .i64 ft, .string fb] 44)).drew) := by
          obtain ⟨y0, y1, y2, y3, _, _, _, _, _⟩ := (HBF.out.alloc (.cells #[.int .i64 fk, .int .i64 fn, .int .i64 ft, .string fb] 44)).four
          refine ⟨?_, y0, y1, y2, y3⟩
          have h := (HLA3.out.bk.alloc (.cells #[.int .i64 fk, .int .i64 fn, .int .i64 ft, .string fb] 44)).cell 6
          rw [show (V3.alloc (.cells #[.int .i64 fk, .int .i64 fn, .int .i64 ft, .string fb] 44)).drew.cell? ⟨lb, 6, none⟩ = _ from h]
          simp [lkCells, Lk.setU, upd]
        have HNF : Hid (some bf ≠ (Value.slice (R1 2) uk.length (C1 2)).ownBlock) := HNF0.out
        have HNL : Hid (some lb ≠ (Value.slice (R1 2) uk.length (C1 2)).ownBlock) := own_ne_bk HOW.out HLA3.out.bk (by decide)
        go_upto_region 4 with (fail)
        refine region_anyL (fun V => V.cell? ⟨lb, 6, none⟩ = some (.slice (R1 2) uk.length (C1 2)) ∧ V.cell? ⟨bf, 0, none⟩ = some (.int .i64 fk) ∧ V.cell? ⟨bf, 1, none⟩ = some (.int .i64 fn) ∧ V.cell? ⟨bf, 2, none⟩ = some (.int .i64 ft) ∧ V.cell? ⟨bf, 3, none⟩ = some (.string fb)) 14 (by kernel_rfl) ?_
        refine anyL_take (i := 0) (oi := { dst := some 22, op := Op.move (Operand.tmp 0), type := 24, pos := "link.go:54", after := #[], guard := none }) (v := ?_) rfl (by kernel_rfl) (by kernel_rfl) (by kernel_rfl) (by kernel_rfl) (fun _ _ _ h => h) (Or.inl ⟨by rfl, ?_⟩) (HS0.out) ?_
        rotate_left
        · intro w hSw
          try dsimp only at hSw
          obtain ⟨q0, q1, q2, q3, q4⟩ := hSw
          first | (go_simp <;> fail) | (go_simp; with_reducible rfl)
        try simp only [Act.put, List.setIfInBounds_toArray, List.set_cons_zero, List.set_cons_succ]
        refine anyL_take (i := 1) (oi := { dst := some 23, op := Op.move (Operand.tmp 1), type := 3, pos := "link.go:54", after := #[], guard := none }) (v := ?_) rfl (by kernel_rfl) (by kernel_rfl) (by kernel_rfl) (by kernel_rfl) (fun _ _ _ h => h) (Or.inl ⟨by rfl, ?_⟩) (HS0.out) ?_
        rotate_left
        · intro w hSw
          try dsimp only at hSw
          obtain ⟨q0, q1, q2, q3, q4⟩ := hSw
          first | (go_simp <;> fail) | (go_simp; with_reducible rfl)
        try simp only [Act.put, List.setIfInBounds_toArray, List.set_cons_zero, List.set_cons_succ]
        refine anyL_take (i := 2) (oi := { dst := some 24, op := Op.move (Operand.tmp 0), type := 24, pos := "link.go:54", after := #[], guard := none }) (v := ?_) rfl (by kernel_rfl) (by kernel_rfl) (by kernel_rfl) (by kernel_rfl) (fun _ _ _ h => h) (Or.inl ⟨by rfl, ?_⟩) (HS0.out) ?_
        rotate_left
        · intro w hSw
          try dsimp only at hSw
          obtain ⟨q0, q1, q2, q3, q4⟩ := hSw
          first | (go_simp <;> fail) | (go_simp; with_reducible rfl)
        try simp only [Act.put, List.setIfInBounds_toArray, List.set_cons_zero, List.set_cons_succ]
        refine anyL_take (i := 3) (oi := { dst := some 25, op := Op.move (Operand.tmp 1), type := 3, pos := "link.go:54", after := #[], guard := none }) (v := ?_) rfl (by kernel_rfl) (by kernel_rfl) (by kernel_rfl) (by kernel_rfl) (fun _ _ _ h => h) (Or.inl ⟨by rfl, ?_⟩) (HS0.out) ?_
        rotate_left
        · intro w hSw
          try dsimp only at hSw
          obtain ⟨q0, q1, q2, q3, q4⟩ := hSw
          first | (go_simp <;> fail) | (go_simp; with_reducible rfl)
        try simp only [Act.put, List.setIfInBounds_toArray, List.set_cons_zero, List.set_cons_succ]
        refine anyL_take (i := 4) (oi := { dst := some 26, op := Op.nilCheck (Operand.tmp 24), type := 0, pos := "link.go:54", after := #[{ on := 2, ground := Ground.data }], guard := none }) (v := ?_) rfl (by kernel_rfl) (by kernel_rfl) (by kernel_rfl) (by kernel_rfl) (fun _ _ _ h => h) (Or.inl ⟨by rfl, ?_⟩) (HS0.out) ?_
        rotate_left
        · intro w hSw
          try dsimp only at hSw
          obtain ⟨q0, q1, q2, q3, q4⟩ := hSw
          first | (go_simp <;> fail) | (go_simp; with_reducible rfl)
        try simp only [Act.put, List.setIfInBounds_toArray, List.set_cons_zero, List.set_cons_succ]
        refine anyL_take (i := 5) (oi := { dst := some 27, op := Op.fieldAddr 58 (Operand.tmp 26) 1, type := 0, pos := "link.go:54", after := #[{ on := 4, ground := Ground.data }], guard := none }) (v := ?_) rfl (by kernel_rfl) (by kernel_rfl) (by kernel_rfl) (by kernel_rfl) (fun _ _ _ h => h) (Or.inl ⟨by rfl, ?_⟩) (HS0.out) ?_
        rotate_left
        · intro w hSw
          try dsimp only at hSw
          obtain ⟨q0, q1, q2, q3, q4⟩ := hSw
          first | (go_simp <;> fail) | (go_simp; with_reducible rfl)
        try simp only [Act.put, List.setIfInBounds_toArray, List.set_cons_zero, List.set_cons_succ]
        refine anyL_take (i := 6) (oi := { dst := some 28, op := Op.indexAddr 49 (Operand.tmp 27) (Operand.tmp 25), type := 0, pos := "link.go:54", after := #[{ on := 5, ground := Ground.data }, { on := 3, ground := Ground.data }], guard := none }) (v := ?_) rfl (by kernel_rfl) (by kernel_rfl) (by kernel_rfl) (by kernel_rfl) (fun _ _ _ h => h) (Or.inl ⟨by rfl, ?_⟩) (HS0.out) ?_
        rotate_left
        · intro w hSw
          try dsimp only at hSw
          obtain ⟨q0, q1, q2, q3, q4⟩ := hSw
          first | (go_simp <;> fail) | (go_simp; with_reducible rfl)
        try simp only [Act.put, List.setIfInBounds_toArray, List.set_cons_zero, List.set_cons_succ]
        refine anyL_take (i := 7) (oi := { dst := some 29, op := Op.load 38 (Operand.tmp 28), type := 38, pos := "link.go:54", after := #[{ on := 6, ground := Ground.data }], guard := none }) (v := ?_) rfl (by kernel_rfl) (by kernel_rfl) (by kernel_rfl) (by kernel_rfl) (fun _ _ _ h => h) (Or.inl ⟨by rfl, ?_⟩) (HS0.out) ?_
        rotate_left
        · intro w hSw
          try dsimp only at hSw
          obtain ⟨q0, q1, q2, q3, q4⟩ := hSw
          first | (go_simp <;> fail) | (go_simp; with_reducible rfl)
        try simp only [Act.put, List.setIfInBounds_toArray, List.set_cons_zero, List.set_cons_succ]
        refine anyL_take (i := 8) (oi := { dst := some 30, op := Op.load 44 (Operand.tmp 7), type := 44, pos := "link.go:54", after := #[], guard := none }) (v := ?_) rfl (by kernel_rfl) (by kernel_rfl) (by kernel_rfl) (by kernel_rfl) (fun _ _ _ h => h) (Or.inl ⟨by rfl, ?_⟩) (HS0.out) ?_
        rotate_left
        · intro w hSw
          try dsimp only at hSw
          obtain ⟨q0, q1, q2, q3, q4⟩ := hSw
          first | (go_simp <;> fail) | (go_simp; with_reducible rfl)
        try simp only [Act.put, List.setIfInBounds_toArray, List.set_cons_zero, List.set_cons_succ]
        refine anyL_takeC [12, 13] (i := 11) (oi := { dst := some 33, op := Op.nilCheck (Operand.tmp 22), type := 0, pos := "link.go:54", after := #[{ on := 0, ground := Ground.data }], guard := none }) (v := ?_) rfl (by kernel_rfl) (by kernel_rfl) (by kernel_rfl) (by kernel_rfl) (by kernel_rfl) (fun _ _ _ h => h) (Or.inl ⟨by rfl, ?_⟩) (HS0.out) ?_
        rotate_left
        · intro w hSw
          try dsimp only at hSw
          obtain ⟨q0, q1, q2, q3, q4⟩ := hSw
          first | (go_simp <;> fail) | (go_simp; with_reducible rfl)
        try simp only [Act.put, List.setIfInBounds_toArray, List.set_cons_zero, List.set_cons_succ]
        refine anyL_takeC [13] (i := 12) (oi := { dst := some 34, op := Op.fieldAddr 58 (Operand.tmp 33) 1, type := 0, pos := "link.go:54", after := #[{ on := 11, ground := Ground.data }], guard := none }) (v := ?_) rfl (by kernel_rfl) (by kernel_rfl) (by kernel_rfl) (by kernel_rfl) (by kernel_rfl) (fun _ _ _ h => h) (Or.inl ⟨by rfl, ?_⟩) (HS0.out) ?_
        rotate_left
        · intro w hSw
          try dsimp only at hSw
          obtain ⟨q0, q1, q2, q3, q4⟩ := hSw
          first | (go_simp <;> fail) | (go_simp; with_reducible rfl)
        try simp only [Act.put, List.setIfInBounds_toArray, List.set_cons_zero, List.set_cons_succ]
        refine anyL_one (i := 9) (o := { dst := some 31, op := Op.buildSlice 38 1 #[(0, Operand.tmp 30)], type := 38, pos := "link.go:54", after := #[{ on := 8, ground := Ground.data }], guard := none }) (by kernel_rfl) rfl (fun K hK => ?_)
        go_simp
        refine hK.out _ _ (fun _ => HS1.out) ?_
        clear hK K
        try simp only [Act.put, List.setIfInBounds_toArray, List.set_cons_zero, List.set_cons_succ]
        refine anyL_one (i := 10) (o := { dst := some 32, op := Op.call { callee := Callee.builtin Builtin.append, args := #[Operand.tmp 29, Operand.tmp 31], argTypes := #[38, 38] }, type := 38, pos := "link.go:54", after := #[{ on := 7, ground := Ground.data }, { on := 9, ground := Ground.data }], guard := none }) (by kernel_rfl) rfl (fun K hK => ?_)
        refine step_append_rd _ rfl (.tmp 29) (.tmp 31) _ rfl L 44 i0 _ 4 40 Try.underlying38 hinf hz0 hz1 hz2 rfl (by omega) _ uk.length (frs uk) rfl (HOW.out.alloc _).drew (V3.heap.size + 1) _ 1 1 _ rfl HRY.out.drew fone (by unfold maxLen; omega) (by omega) (by simp; omega) ?_
        intro A1 c1 w3 h1 h2 hown1 hg1x hat1x
        have hg1 : ((V3.alloc (.cells #[.int .i64 fk, .int .i64 fn, .int .i64 ft, .string fb] 44)).drew).grownBy w3 (Value.slice (R1 2) uk.length (C1 2)).ownBlock := hg1x
        have hat1 : (Value.slice A1 (uk.length + 1) c1).ownBlock = (Value.slice (R1 2) uk.length (C1 2)).ownBlock ∨ (Value.slice A1 (uk.length + 1) c1).ownBlock = some ((V3.alloc (.cells #[.int .i64 fk, .int .i64 fn, .int .i64 ft, .string fb] 44)).drew).heap.size := hat1x
        clear hg1x hat1x
        have HBF3 : Hid (Bk w3 bf 44 #[.int .i64 fk, .int .i64 fn, .int .i64 ft, .string fb]) := ((HBF.out.alloc _).drew).grown hg1 HNF.out
        have HLB3 : Hid (Bk w3 lb 58 (lkCells (st.setU 0 uk) R1 C1)) := ((HLA3.out.bk.alloc _).drew).grown hg1 HNL.out
        obtain ⟨x0, x1, x2, x3, e0, e1, e2, e3, hxg⟩ := HBF3.out.four
        have q0 : w3.cell? ⟨lb, 6, none⟩ = some (.slice (R1 2) uk.length (C1 2)) := by rw [HLB3.out.cell]; simp [lkCells, Lk.setU, upd]
        have z0 := HLB3.out.frozen 6
        have hlb := HLB3.out.lt
        refine hK.out _ _ (fun _ => ⟨q0, x0, x1, x2, x3⟩) ?_
        clear hK K
        try simp only [Act.put, List.setIfInBounds_toArray, List.set_cons_zero, List.set_cons_succ]
        refine anyL_take (i := 13) (oi := { dst := some 35, op := Op.indexAddr 49 (Operand.tmp 34) (Operand.tmp 23), type := 0, pos := "link.go:54", after := #[{ on := 12, ground := Ground.data }, { on := 1, ground := Ground.data }, { on := 0, ground := Ground.phase }, { on := 1, ground := Ground.phase }, { on := 2, ground := Ground.phase }, { on := 3, ground := Ground.phase }, { on := 4, ground := Ground.phase }, { on := 5, ground := Ground.phase }, { on := 6, ground := Ground.phase }, { on := 7, ground := Ground.phase }, { on := 8, ground := Ground.phase }, { on := 9, ground := Ground.phase }, { on := 10, ground := Ground.phase }], guard := none }) (v := ?_) rfl (by kernel_rfl) (by kernel_rfl) (by kernel_rfl) (by kernel_rfl) (fun _ _ _ h => h) (Or.inl ⟨by rfl, ?_⟩) (⟨q0, x0, x1, x2, x3⟩) ?_
        rotate_left
        · intro w hSw
          try dsimp only at hSw
          obtain ⟨q0, q1, q2, q3, q4⟩ := hSw
          first | (go_simp <;> fail) | (go_simp; with_reducible rfl)
        try simp only [Act.put, List.setIfInBounds_toArray, List.set_cons_zero, List.set_cons_succ]
        refine anyL_one (i := 14) (o := { dst := none, op := Op.store 38 (Operand.tmp 35) (Operand.tmp 32), type := 0, pos := "link.go:54", after := #[{ on := 13, ground := Ground.data }, { on := 10, ground := Ground.data }, { on := 10, ground := Ground.chain }, { on := 0, ground := Ground.phase }, { on := 1, ground := Ground.phase }, { on := 2, ground := Ground.phase }, { on := 3, ground := Ground.phase }, { on := 4, ground := Ground.phase }, { on := 5, ground := Ground.phase }, { on := 6, ground := Ground.phase }, { on := 7, ground := Ground.phase }, { on := 8, ground := Ground.phase }, { on := 9, ground := Ground.phase }, { on := 10, ground := Ground.phase }], guard := none }) (by kernel_rfl) rfl (fun K hK => ?_)
        go_simp
        refine hK.out _ _ (fun h0 => absurd rfl h0) ?_
        clear hK K
        try simp only [Act.put, List.setIfInBounds_toArray, List.set_cons_zero, List.set_cons_succ]
        refine anyL_done (by kernel_rfl) ?_ _
        have hfr : frs (uk ++ [⟨fk, fn, ft, fb⟩]) = frs uk ++ Fr.cells ⟨fk, fn, ft, fb⟩ := by rw [frs_append]; simp [frs]
        have hst : (st.setU 0 (putU ul (fl.take (k + 1)))) = st.setU 0 (uk ++ [⟨fk, fn, ft, fb⟩]) := by rw [HTK.out, putU_snoc, ← HUK.out, if_pos hfull]
        have hln : (uk ++ [(⟨fk, fn, ft, fb⟩ : Fr)]).length = uk.length + 1 := by simp
        have hres := LinkAt.app (st' := st.setU 0 (uk ++ [⟨fk, fn, ft, fb⟩])) (j := 2) (ci := 6) (v := .slice A1 (uk.length + 1) c1) HLA3.out (by omega)
          (fun i hi hne => by
            have h6 : i = 0 ∨ i = 1 ∨ i = 2 ∨ i = 3 ∨ i = 4 ∨ i = 5 := by omega
            rcases h6 with rfl | rfl | rfl | rfl | rfl | rfl <;> first | exact absurd rfl hne | simp [rowLn, rowXs, Lk.setU, upd])
          (by simpa [rowTy, rowSz, rowLn, rowXs, Lk.setU, upd, hfr] using hown1) (by simpa [rowLn, Lk.setU, upd] using hg1) (by simpa [rowLn, Lk.setU, upd] using hat1) (by simp [lkCells, Lk.setU, upd])
        have HRES := Lib.hid hres
        have HST := Lib.hid hst
        clear hres hst hfr hln hown1 hg1 hat1 x0 x1 x2 x3 e0 e1 e2 e3 hxg q0 z0 hlb
        go_wp2
        exact ⟨⟨k + 1, _, _, by omega, by push_cast; rfl, by rw [HST.out]; exact HRES.out.1, HKE3.out.trans HRES.out.2⟩, by simp only [intOf]; omega⟩
      · have i5 : ¬ (uk.length : Int) < 4096 := by omega
        go_wp2
        refine ⟨⟨k + 1, R1, C1, by omega, by push_cast; rfl, ?_, HKE3.out⟩, by simp only [intOf]; omega⟩
        rw [HTK.out, putU_snoc, ← HUK.out, if_neg hfull]
        exact HLA3.out
    · have i3 : ¬ ((k : Int) < (n : Int)) := by omega
      have hkn : fl.take k = fl := List.take_of_length_le (by have := HFL.out; omega)
      rw [hkn] at HLA
      go_wp2
      refine bodyPost_end (results_none rfl _ _ _) rfl ?_
      exact ⟨rfl, R1, C1, HLA.out, HKE.out⟩

set_option maxHeartbeats 4000000 in
set_option maxRecDepth 100000 in
theorem put_1 (L lb : Nat) (st : Lk) (R : Nat → Option Addr) (C : Nat → Nat) (W : World) (A : Option Addr) (n c : Nat) (fl : List Fr) (hl : LinkAt L lb st R C W) (hu : (st.u 1).length ≤ 4096) (hLW : L ≤ W.heap.size) (hn : n ≤ maxLen)
    (hr : Rd W W.heap.size 4 A n (frs fl)) (hA : ∀ p, A = some p → ¬ inLink lb R p.block) :
    Calls Try.prog 28 #[.pointer (some ⟨lb, 0, none⟩), .int .i64 1, .slice A n c] W fun e W' => e = .returned (.tuple #[]) ∧ LOut L lb R W (st.setU 1 (putU (st.u 1) fl)) W' := by
  have hfl : fl.length = n := by have := hr.1; rw [frs_len] at this; omega
  have HFL := Lib.hid hfl
  have HRD : Hid (∀ R' V, Kept lb R R' W V → Rd V W.heap.size 4 A n (frs fl)) := fun R' V hk => by
    by_cases h0 : 0 < n
    · obtain ⟨a, e, hb, _⟩ := hr.2 h0
      exact rd_block hr fun p hp => hk.block p.block (by rw [e] at hp; injection hp with hp; subst hp; exact hb) (hA p hp)
    · have e0 : n = 0 := by omega
      have e1 : frs fl = [] := List.eq_nil_of_length_eq_zero (by rw [hr.1, e0, Nat.zero_mul])
      rw [e0, e1]
      exact Rd.nil _ _ _ _
  have HL0 := Lib.hid hl
  obtain ⟨ul, hul⟩ : ∃ ul, ul = st.u 1 := ⟨_, rfl⟩
  have HU : Hid (∀ k, (putU ul (fl.take k)).length ≤ 4096) := fun k => putU_len _ _ (by rw [hul]; exact hu)
  rw [← hul]
  have HUL := Lib.hid hul
  clear hl hr hA hfl hu hul
  unfold maxLen at hn
  go_enter Try.func28, Try.ntmps28
  go_wp2
  go_loopw [10] (fun i wr => ∃ (k : Nat) (R' : Nat → Option Addr) (C' : Nat → Nat), k ≤ n ∧ i = .int .i64 k ∧ LinkAt L lb (st.setU 1 (putU ul (fl.take k))) R' C' wr ∧ Kept lb R R' W wr) (fun i _ => n - (intOf i).toNat)
  case atStart =>
    refine ⟨0, R, C, Nat.zero_le _, rfl, ?_, Kept.refl _ _ _⟩
    have e : st.setU 1 (putU ul (fl.take 0)) = st := by
      show Lk.mk st.e (upd st.u 1 (putU ul [])) st.g = st
      rw [putU_nil, HUL.out]
      have : upd st.u 1 (st.u 1) = st.u := by funext j; unfold upd; split <;> simp_all
      rw [this]
    rw [e]
    exact HL0.out
  case round =>
    obtain ⟨k, R1, C1, hk, rfl, hla, hke⟩ := hrel
    have HLA := Lib.hid hla
    have HKE := Lib.hid hke
    clear hla hke
    rename World => V
    by_cases hlt : k < n
    · have hkl : k < fl.length := by have := HFL.out; omega
      obtain ⟨a0, hA0, _, c0, c1, c2, c3⟩ := (HRD.out R1 V HKE.out).frame hkl
      obtain ⟨⟨fk, fn, ft, fb⟩, hx⟩ : ∃ x, x = fl[k] := ⟨_, rfl⟩
      rw [← hx] at c0 c1 c2 c3
      dsimp only at c0 c1 c2 c3
      have htk : fl.take (k + 1) = fl.take k ++ [⟨fk, fn, ft, fb⟩] := by rw [List.take_add_one, List.getElem?_eq_getElem hkl, ← hx]; rfl
      have HTK := Lib.hid htk
      subst hA0
      clear hx htk
      have hub := HU.out k
      obtain ⟨uk, huk⟩ : ∃ uk, uk = putU ul (fl.take k) := ⟨_, rfl⟩
      rw [← huk] at hub
      have HUK := Lib.hid huk
      rw [← huk] at HLA
      clear huk
      have i1 : (k : Int) < (n : Int) := by omega
      have i2 : (0 : Int) ≤ (k : Int) := by omega
      have i4 : IntKind.i64.wrap ((k : Int) + 1) = (k : Int) + 1 := IntWalk.i64_in _ (by omega)
      obtain ⟨V3, hV3⟩ : ∃ V3, V3 = V.alloc (.cells #[.int .i64 fk, .int .i64 fn, .int .i64 ft, .string fb] 44) := ⟨_, rfl⟩
      obtain ⟨bf, hbf⟩ : ∃ bf, bf = V.heap.size := ⟨_, rfl⟩
      have HBF : Hid (Bk V3 bf 44 #[.int .i64 fk, .int .i64 fn, .int .i64 ft, .string fb]) := by rw [hV3, hbf]; exact Bk.new _ _ _
      have HLA3 : Hid (LinkAt L lb (st.setU 1 uk) R1 C1 V3) := by rw [hV3]; exact HLA.out.alloc _
      have HKE3 : Hid (Kept lb R R1 W V3) := by rw [hV3]; exact HKE.out.trans (Kept.of_below _ _ ((Below.refl _ V).alloc (Nat.le_refl _) _))
      have hLV : L ≤ V3.heap.size := Nat.le_trans hLW HKE3.out.size
      have hown := HLA3.out.own 3 (by omega)
      have q0 : V3.cell? ⟨lb, 7, none⟩ = some (.slice (R1 3) uk.length (C1 3)) := by rw [HLA3.out.bk.cell]; simp [lkCells, Lk.setU, upd]
      have z0 := HLA3.out.bk.frozen 7
      have hlb := HLA3.out.bk.lt
      have ho' : V3.ownsRow L 44 4 (.slice (R1 3) uk.length (C1 3)) uk.length (frs uk) := by
        have := hown
        simpa [rowTy, rowSz, rowLn, rowXs, Lk.setU, upd] using this
      have HOW := Lib.hid ho'
      have HNF0 : Hid (some bf ≠ (Value.slice (R1 3) uk.length (C1 3)).ownBlock) := by
        have h0 := HLA.out.own 3 (by omega)
        rw [hbf]
        have h1 : V.ownsRow L 44 4 (.slice (R1 3) uk.length (C1 3)) uk.length (frs uk) := by simpa [rowTy, rowSz, rowLn, rowXs, Lk.setU, upd] using h0
        exact own_ne_ge h1 (Nat.le_refl _)
      go_upto_region 3 with (fail)
      rw [← hV3, ← hbf]
      clear hV3 hbf c0 c1 c2 c3 hown ho'
      obtain ⟨x0, x1, x2, x3, e0, e1, e2, e3, hxg⟩ := HBF.out.four
      by_cases hfull : uk.length < 4096
      · have i5 : (uk.length : Int) < 4096 := by omega
        obtain ⟨i0, hinf, hz0, hz1, hz2⟩ := info_parts info44
        have hry : Rd (V3.alloc (.cells #[.int .i64 fk, .int .i64 fn, .int .i64 ft, .string fb] 44)) (V3.heap.size + 1) 4 (some ⟨V3.heap.size, 0, none⟩) 1 (Fr.cells ⟨fk, fn, ft, fb⟩) := ⟨rfl, fun _ => ⟨_, rfl, by simp, World.news_of_block (Bk.new V3 44 #[.int .i64 fk, .int .i64 fn, .int .i64 ft, .string fb])⟩⟩
        have HRY := Lib.hid hry
        have fone := fcells_one ⟨fk, fn, ft, fb⟩
        clear hry
        have HS0 : Hid ((fun V => V.cell? ⟨lb, 7, none⟩ = some (.slice (R1 3) uk.length (C1 3)) ∧ V.cell? ⟨bf, 0, none⟩ = some (.int .i64 fk) ∧ V.cell? ⟨bf, 1, none⟩ = some (.int .i64 fn) ∧ V.cell? ⟨bf, 2, none⟩ = some (.int .i64 ft) ∧ V.cell? ⟨bf, 3, none⟩ = some (.string fb)) V3.drew) := ⟨q0, x0, x1, x2, x3⟩
        have HS1 : Hid ((fun V => V.cell? ⟨lb, 7, none⟩ = some (.slice (R1 3) uk.length (C1 3)) ∧ V.cell? ⟨bf, 0, none⟩ = some (.int .i64 fk) ∧ V.cell? ⟨bf, 1, none⟩ = some (.int .i64 fn) ∧ V.cell? ⟨bf, 2, none⟩ = some (.int .i64 ft) ∧ V.cell? ⟨bf, 3, none⟩ = some (.string fb)) (V3.alloc (.cells #[.int .i64 fk, .int .i64 fn, .int .i64 ft, .string fb] 44)).drew) := by
          obtain ⟨y0, y1, y2, y3, _, _, _, _, _⟩ := (HBF.out.alloc (.cells #[.int .i64 fk, .int .i64 fn, .int .i64 ft, .string fb] 44)).four
          refine ⟨?_, y0, y1, y2, y3⟩
          have h := (HLA3.out.bk.alloc (.cells #[.int .i64 fk, .int .i64 fn, .int .i64 ft, .string fb] 44)).cell 7
          rw [show (V3.alloc (.cells #[.int .i64 fk, .int .i64 fn, .int .i64 ft, .string fb] 44)).drew.cell? ⟨lb, 7, none⟩ = _ from h]
          simp [lkCells, Lk.setU, upd]
        have HNF : Hid (some bf ≠ (Value.slice (R1 3) uk.length (C1 3)).ownBlock) := HNF0.out
        have HNL : Hid (some lb ≠ (Value.slice (R1 3) uk.length (C1 3)).ownBlock) := own_ne_bk HOW.out HLA3.out.bk (by decide)
        go_upto_region 4 with (fail)
        refine region_anyL (fun V => V.cell? ⟨lb, 7, none⟩ = some (.slice (R1 3) uk.length (C1 3)) ∧ V.cell? ⟨bf, 0, none⟩ = some (.int .i64 fk) ∧ V.cell? ⟨bf, 1, none⟩ = some (.int .i64 fn) ∧ V.cell? ⟨bf, 2, none⟩ = some (.int .i64 ft) ∧ V.cell? ⟨bf, 3, none⟩ = some (.string fb)) 14 (by kernel_rfl) ?_
        refine anyL_take (i := 0) (oi := { dst := some 22, op := Op.move (Operand.tmp 0), type := 24, pos := "link.go:54", after := #[], guard := none }) (v := ?_) rfl (by kernel_rfl) (by kernel_rfl) (by kernel_rfl) (by kernel_rfl) (fun _ _ _ h => h) (Or.inl ⟨by rfl, ?_⟩) (HS0.out) ?_
        rotate_left
        · intro w hSw
          try dsimp only at hSw
          obtain ⟨q0, q1, q2, q3, q4⟩ := hSw
          first | (go_simp <;> fail) | (go_simp; with_reducible rfl)
        try simp only [Act.put, List.setIfInBounds_toArray, List.set_cons_zero, List.set_cons_succ]
        refine anyL_take (i := 1) (oi := { dst := some 23, op := Op.move (Operand.tmp 1), type := 3, pos := "link.go:54", after := #[], guard := none }) (v := ?_) rfl (by kernel_rfl) (by kernel_rfl) (by kernel_rfl) (by kernel_rfl) (fun _ _ _ h => h) (Or.inl ⟨by rfl, ?_⟩) (HS0.out) ?_
        rotate_left
        · intro w hSw
          try dsimp only at hSw
          obtain ⟨q0, q1, q2, q3, q4⟩ := hSw
          first | (go_simp <;> fail) | (go_simp; with_reducible rfl)
        try simp only [Act.put, List.setIfInBounds_toArray, List.set_cons_zero, List.set_cons_succ]
        refine anyL_take (i := 2) (oi := { dst := some 24, op := Op.move (Operand.tmp 0), type := 24, pos := "link.go:54", after := #[], guard := none }) (v := ?_) rfl (by kernel_rfl) (by kernel_rfl) (by kernel_rfl) (by kernel_rfl) (fun _ _ _ h => h) (Or.inl ⟨by rfl, ?_⟩) (HS0.out) ?_
        rotate_left
        · intro w hSw
          try dsimp only at hSw
          obtain ⟨q0, q1, q2, q3, q4⟩ := hSw
          first | (go_simp <;> fail) | (go_simp; with_reducible rfl)
        try simp only [Act.put, List.setIfInBounds_toArray, List.set_cons_zero, List.set_cons_succ]
        refine anyL_take (i := 3) (oi := { dst := some 25, op := Op.move (Operand.tmp 1), type := 3, pos := "link.go:54", after := #[], guard := none }) (v := ?_) rfl (by kernel_rfl) (by kernel_rfl) (by kernel_rfl) (by kernel_rfl) (fun _ _ _ h => h) (Or.inl ⟨by rfl, ?_⟩) (HS0.out) ?_
        rotate_left
        · intro w hSw
          try dsimp only at hSw
          obtain ⟨q0, q1, q2, q3, q4⟩ := hSw
          first | (go_simp <;> fail) | (go_simp; with_reducible rfl)
        try simp only [Act.put, List.setIfInBounds_toArray, List.set_cons_zero, List.set_cons_succ]
        refine anyL_take (i := 4) (oi := { dst := some 26, op := Op.nilCheck (Operand.tmp 24), type := 0, pos := "link.go:54", after := #[{ on := 2, ground := Ground.data }], guard := none }) (v := ?_) rfl (by kernel_rfl) (by kernel_rfl) (by kernel_rfl) (by kernel_rfl) (fun _ _ _ h => h) (Or.inl ⟨by rfl, ?_⟩) (HS0.out) ?_
        rotate_left
        · intro w hSw
          try dsimp only at hSw
          obtain ⟨q0, q1, q2, q3, q4⟩ := hSw
          first | (go_simp <;> fail) | (go_simp; with_reducible rfl)
        try simp only [Act.put, List.setIfInBounds_toArray, List.set_cons_zero, List.set_cons_succ]
        refine anyL_take (i := 5) (oi := { dst := some 27, op := Op.fieldAddr 58 (Operand.tmp 26) 1, type := 0, pos := "link.go:54", after := #[{ on := 4, ground := Ground.data }], guard := none }) (v := ?_) rfl (by kernel_rfl) (by kernel_rfl) (by kernel_rfl) (by kernel_rfl) (fun _ _ _ h => h) (Or.inl ⟨by rfl, ?_⟩) (HS0.out) ?_
        rotate_left
        · intro w hSw
          try dsimp only at hSw
          obtain ⟨q0, q1, q2, q3, q4⟩ := hSw
          first | (go_simp <;> fail) | (go_simp; with_reducible rfl)
        try simp only [Act.put, List.setIfInBounds_toArray, List.set_cons_zero, List.set_cons_succ]
        refine anyL_take (i := 6) (oi := { dst := some 28, op := Op.indexAddr 49 (Operand.tmp 27) (Operand.tmp 25), type := 0, pos := "link.go:54", after := #[{ on := 5, ground := Ground.data }, { on := 3, ground := Ground.data }], guard := none }) (v := ?_) rfl (by kernel_rfl) (by kernel_rfl) (by kernel_rfl) (by kernel_rfl) (fun _ _ _ h => h) (Or.inl ⟨by rfl, ?_⟩) (HS0.out) ?_
        rotate_left
        · intro w hSw
          try dsimp only at hSw
          obtain ⟨q0, q1, q2, q3, q4⟩ := hSw
          first | (go_simp <;> fail) | (go_simp; with_reducible rfl)
        try simp only [Act.put, List.setIfInBounds_toArray, List.set_cons_zero, List.set_cons_succ]
        refine anyL_take (i := 7) (oi := { dst := some 29, op := Op.load 38 (Operand.tmp 28), type := 38, pos := "link.go:54", after := #[{ on := 6, ground := Ground.data }], guard := none }) (v := ?_) rfl (by kernel_rfl) (by kernel_rfl) (by kernel_rfl) (by kernel_rfl) (fun _ _ _ h => h) (Or.inl ⟨by rfl, ?_⟩) (HS0.out) ?_
        rotate_left
        · intro w hSw
          try dsimp only at hSw
          obtain ⟨q0, q1, q2, q3, q4⟩ := hSw
          first | (go_simp <;> fail) | (go_simp; with_reducible rfl)
        try simp only [Act.put, List.setIfInBounds_toArray, List.set_cons_zero, List.set_cons_succ]
        refine anyL_take (i := 8) (oi := { dst := some 30, op := Op.load 44 (Operand.tmp 7), type := 44, pos := "link.go:54", after := #[], guard := none }) (v := ?_) rfl (by kernel_rfl) (by kernel_rfl) (by kernel_rfl) (by kernel_rfl) (fun _ _ _ h => h) (Or.inl ⟨by rfl, ?_⟩) (HS0.out) ?_
        rotate_left
        · intro w hSw
          try dsimp only at hSw
          obtain ⟨q0, q1, q2, q3, q4⟩ := hSw
          first | (go_simp <;> fail) | (go_simp; with_reducible rfl)
        try simp only [Act.put, List.setIfInBounds_toArray, List.set_cons_zero, List.set_cons_succ]
        refine anyL_takeC [12, 13] (i := 11) (oi := { dst := some 33, op := Op.nilCheck (Operand.tmp 22), type := 0, pos := "link.go:54", after := #[{ on := 0, ground := Ground.data }], guard := none }) (v := ?_) rfl (by kernel_rfl) (by kernel_rfl) (by kernel_rfl) (by kernel_rfl) (by kernel_rfl) (fun _ _ _ h => h) (Or.inl ⟨by rfl, ?_⟩) (HS0.out) ?_
        rotate_left
        · intro w hSw
          try dsimp only at hSw
          obtain ⟨q0, q1, q2, q3, q4⟩ := hSw
          first | (go_simp <;> fail) | (go_simp; with_reducible rfl)
        try simp only [Act.put, List.setIfInBounds_toArray, List.set_cons_zero, List.set_cons_succ]
        refine anyL_takeC [13] (i := 12) (oi := { dst := some 34, op := Op.fieldAddr 58 (Operand.tmp 33) 1, type := 0, pos := "link.go:54", after := #[{ on := 11, ground := Ground.data }], guard := none }) (v := ?_) rfl (by kernel_rfl) (by kernel_rfl) (by kernel_rfl) (by kernel_rfl) (by kernel_rfl) (fun _ _ _ h => h) (Or.inl ⟨by rfl, ?_⟩) (HS0.out) ?_
        rotate_left
        · intro w hSw
          try dsimp only at hSw
          obtain ⟨q0, q1, q2, q3, q4⟩ := hSw
          first | (go_simp <;> fail) | (go_simp; with_reducible rfl)
        try simp only [Act.put, List.setIfInBounds_toArray, List.set_cons_zero, List.set_cons_succ]
        refine anyL_one (i := 9) (o := { dst := some 31, op := Op.buildSlice 38 1 #[(0, Operand.tmp 30)], type := 38, pos := "link.go:54", after := #[{ on := 8, ground := Ground.data }], guard := none }) (by kernel_rfl) rfl (fun K hK => ?_)
        go_simp
        refine hK.out _ _ (fun _ => HS1.out) ?_
        clear hK K
        try simp only [Act.put, List.setIfInBounds_toArray, List.set_cons_zero, List.set_cons_succ]
        refine anyL_one (i := 10) (o := { dst := some 32, op := Op.call { callee := Callee.builtin Builtin.append, args := #[Operand.tmp 29, Operand.tmp 31], argTypes := #[38, 38] }, type := 38, pos := "link.go:54", after := #[{ on := 7, ground := Ground.data }, { on := 9, ground := Ground.data }], guard := none }) (by kernel_rfl) rfl (fun K hK => ?_)
        refine step_append_rd _ rfl (.tmp 29) (.tmp 31) _ rfl L 44 i0 _ 4 40 Try.underlying38 hinf hz0 hz1 hz2 rfl (by omega) _ uk.length (frs uk) rfl (HOW.out.alloc _).drew (V3.heap.size + 1) _ 1 1 _ rfl HRY.out.drew fone (by unfold maxLen; omega) (by omega) (by simp; omega) ?_
        intro A1 c1 w3 h1 h2 hown1 hg1x hat1x
        have hg1 : ((V3.alloc (.cells #[.int .i64 fk, .int .i64 fn, .int .i64 ft, .string fb] 44)).drew).grownBy w3 (Value.slice (R1 3) uk.length (C1 3)).ownBlock := hg1x
        have hat1 : (Value.slice A1 (uk.length + 1) c1).ownBlock = (Value.slice (R1 3) uk.length (C1 3)).ownBlock ∨ (Value.slice A1 (uk.length + 1) c1).ownBlock = some ((V3.alloc (.cells #[.int .i64 fk, .int .i64 fn, .int .i64 ft, .string fb] 44)).drew).heap.size := hat1x
        clear hg1x hat1x
        have HBF3 : Hid (Bk w3 bf 44 #[.int .i64 fk, .int .i64 fn, .int .i64 ft, .string fb]) := ((HBF.out.alloc _).drew).grown hg1 HNF.out
        have HLB3 : Hid (Bk w3 lb 58 (lkCells (st.setU 1 uk) R1 C1)) := ((HLA3.out.bk.alloc _).drew).grown hg1 HNL.out
        obtain ⟨x0, x1, x2, x3, e0, e1, e2, e3, hxg⟩ := HBF3.out.four
        have q0 : w3.cell? ⟨lb, 7, none⟩ = some (.slice (R1 3) uk.length (C1 3)) := by rw [HLB3.out.cell]; simp [lkCells, Lk.setU, upd]
        have z0 := HLB3.out.frozen 7
        have hlb := HLB3.out.lt
        refine hK.out _ _ (fun _ => ⟨q0, x0, x1, x2, x3⟩) ?_
        clear hK K
        try simp only [Act.put, List.setIfInBounds_toArray, List.set_cons_zero, List.set_cons_succ]
        refine anyL_take (i := 13) (oi := { dst := some 35, op := Op.indexAddr 49 (Operand.tmp 34) (Operand.tmp 23), type := 0, pos := "link.go:54", after := #[{ on := 12, ground := Ground.data }, { on := 1, ground := Ground.data }, { on := 0, ground := Ground.phase }, { on := 1, ground := Ground.phase }, { on := 2, ground := Ground.phase }, { on := 3, ground := Ground.phase }, { on := 4, ground := Ground.phase }, { on := 5, ground := Ground.phase }, { on := 6, ground := Ground.phase }, { on := 7, ground := Ground.phase }, { on := 8, ground := Ground.phase }, { on := 9, ground := Ground.phase }, { on := 10, ground := Ground.phase }], guard := none }) (v := ?_) rfl (by kernel_rfl) (by kernel_rfl) (by kernel_rfl) (by kernel_rfl) (fun _ _ _ h => h) (Or.inl ⟨by rfl, ?_⟩) (⟨q0, x0, x1, x2, x3⟩) ?_
        rotate_left
        · intro w hSw
          try dsimp only at hSw
          obtain ⟨q0, q1, q2, q3, q4⟩ := hSw
          first | (go_simp <;> fail) | (go_simp; with_reducible rfl)
        try simp only [Act.put, List.setIfInBounds_toArray, List.set_cons_zero, List.set_cons_succ]
        refine anyL_one (i := 14) (o := { dst := none, op := Op.store 38 (Operand.tmp 35) (Operand.tmp 32), type := 0, pos := "link.go:54", after := #[{ on := 13, ground := Ground.data }, { on := 10, ground := Ground.data }, { on := 10, ground := Ground.chain }, { on := 0, ground := Ground.phase }, { on := 1, ground := Ground.phase }, { on := 2, ground := Ground.phase }, { on := 3, ground := Ground.phase }, { on := 4, ground := Ground.phase }, { on := 5, ground := Ground.phase }, { on := 6, ground := Ground.phase }, { on := 7, ground := Ground.phase }, { on := 8, ground := Ground.phase }, { on := 9, ground := Ground.phase }, { on := 10, ground := Ground.phase }], guard := none }) (by kernel_rfl) rfl (fun K hK => ?_)
        go_simp
        refine hK.out _ _ (fun h0 => absurd rfl h0) ?_
        clear hK K
        try simp only [Act.put, List.setIfInBounds_toArray, List.set_cons_zero, List.set_cons_succ]
        refine anyL_done (by kernel_rfl) ?_ _
        have hfr : frs (uk ++ [⟨fk, fn, ft, fb⟩]) = frs uk ++ Fr.cells ⟨fk, fn, ft, fb⟩ := by rw [frs_append]; simp [frs]
        have hst : (st.setU 1 (putU ul (fl.take (k + 1)))) = st.setU 1 (uk ++ [⟨fk, fn, ft, fb⟩]) := by rw [HTK.out, putU_snoc, ← HUK.out, if_pos hfull]
        have hln : (uk ++ [(⟨fk, fn, ft, fb⟩ : Fr)]).length = uk.length + 1 := by simp
        have hres := LinkAt.app (st' := st.setU 1 (uk ++ [⟨fk, fn, ft, fb⟩])) (j := 3) (ci := 7) (v := .slice A1 (uk.length + 1) c1) HLA3.out (by omega)
          (fun i hi hne => by
            have h6 : i = 0 ∨ i = 1 ∨ i = 2 ∨ i = 3 ∨ i = 4 ∨ i = 5 := by omega
            rcases h6 with rfl | rfl | rfl | rfl | rfl | rfl <;> first | exact absurd rfl hne | simp [rowLn, rowXs, Lk.setU, upd])
          (by simpa [rowTy, rowSz, rowLn, rowXs, Lk.setU, upd, hfr] using hown1) (by simpa [rowLn, Lk.setU, upd] using hg1) (by simpa [rowLn, Lk.setU, upd] using hat1) (by simp [lkCells, Lk.setU, upd])
        have HRES := Lib.hid hres
        have HST := Lib.hid hst
        clear hres hst hfr hln hown1 hg1 hat1 x0 x1 x2 x3 e0 e1 e2 e3 hxg q0 z0 hlb
        go_wp2
        exact ⟨⟨k + 1, _, _, by omega, by push_cast; rfl, by rw [HST.out]; exact HRES.out.1, HKE3.out.trans HRES.out.2⟩, by simp only [intOf]; omega⟩
      · have i5 : ¬ (uk.length : Int) < 4096 := by omega
        go_wp2
        refine ⟨⟨k + 1, R1, C1, by omega, by push_cast; rfl, ?_, HKE3.out⟩, by simp only [intOf]; omega⟩
        rw [HTK.out, putU_snoc, ← HUK.out, if_neg hfull]
        exact HLA3.out
    · have i3 : ¬ ((k : Int) < (n : Int)) := by omega
      have hkn : fl.take k = fl := List.take_of_length_le (by have := HFL.out; omega)
      rw [hkn] at HLA
      go_wp2
      refine bodyPost_end (results_none rfl _ _ _) rfl ?_
      exact ⟨rfl, R1, C1, HLA.out, HKE.out⟩

end Go.Proofs.Ytnbndhmdfheikaa
