/- The texts DM DP DS DC in one. By merge_d.py. -/
import Derived.Test.YtnbndhmdfheikaaLM
import Derived.Test.YtnbndhmdfheikaaLS
import Derived.Test.YtnbndhmdfheikaaS2
import Derived.Test.YtnbndhmdfheikaaLC
/- The document's link in memory. By gen_d.py. -/
namespace Go.Proofs.Ytnbndhmdfheikaa.D
open Go.RowKit

/-- The link as it lies in memory, all from L on. -/
structure LinkAt (L lb : Nat) (st : Lk) (R : Nat → Option Addr) (C : Nat → Nat) (W : World) : Prop where
  bk : Bk W lb 52 (lkCells st R C)
  lo : L ≤ lb
  own : ∀ j, j < 6 → W.ownsRow L (rowTy j) (rowSz j) (.slice (R j) (rowLn st j) (C j)) (rowLn st j) (rowXs st j)
  dis : ∀ i j, i < 6 → j < 6 → i ≠ j → ∀ p q, R i = some p → R j = some q → p.block ≠ q.block

def inLink (lb : Nat) (R : Nat → Option Addr) (b : Nat) : Prop := b = lb ∨ ∃ j p, j < 6 ∧ R j = some p ∧ p.block = b
/-- Nothing but the link's own blocks turned; what is new in it is new. -/
structure Kept (lb : Nat) (R R' : Nat → Option Addr) (W W' : World) : Prop where
  os : W'.os = W.os
  tape : W'.tape = W.tape
  output : W'.output = W.output
  size : W.heap.size ≤ W'.heap.size
  block : ∀ b, b < W.heap.size → ¬ inLink lb R b → W'.heap[b]? = W.heap[b]?
  fresh : ∀ b, inLink lb R' b → inLink lb R b ∨ W.heap.size ≤ b

section
variable {L lb : Nat} {st st' : Lk} {R R' R'' : Nat → Option Addr} {C C' : Nat → Nat} {W W' W'' : World}
theorem Kept.refl (lb : Nat) (R : Nat → Option Addr) (W : World) : Kept lb R R W W := ⟨rfl, rfl, rfl, Nat.le_refl _, fun _ _ _ => rfl, fun _ h => .inl h⟩
theorem Kept.trans (h1 : Kept lb R R' W W') (h2 : Kept lb R' R'' W' W'') : Kept lb R R'' W W'' := by
  refine ⟨h2.os.trans h1.os, h2.tape.trans h1.tape, h2.output.trans h1.output, Nat.le_trans h1.size h2.size, fun b hb hn => ?_, fun b hb => ?_⟩
  · refine (h2.block b (Nat.lt_of_lt_of_le hb h1.size) fun hi => ?_).trans (h1.block b hb hn)
    rcases h1.fresh b hi with h3 | h3
    · exact hn h3
    · omega
  · rcases h2.fresh b hb with h3 | h3
    · exact h1.fresh b h3
    · exact .inr (Nat.le_trans h1.size h3)
theorem Kept.of_below (lb : Nat) (R : Nat → Option Addr) (h : Below W.heap.size W W') : Kept lb R R W W' := ⟨h.os, h.tape, h.output, h.size, fun b hb _ => h.block b hb, fun _ h => .inl h⟩
theorem LinkAt.blocks (h : LinkAt L lb st R C W) : ∀ b, inLink lb R b → L ≤ b ∧ b < W.heap.size := fun b hb => by
  rcases hb with rfl | ⟨j, p, hj, hp, rfl⟩
  · exact ⟨h.lo, h.bk.lt⟩
  · exact own_lt (h.own j hj) p hp
/-- Seen from outside: all below L is as it was. -/
theorem Kept.below (h : Kept lb R R' W W') (hl : LinkAt L lb st R C W) (hL : L ≤ W.heap.size) : Below L W W' :=
  ⟨h.os, h.tape, h.output, h.size, fun b hb => h.block b (by omega) fun hi => by have := (hl.blocks b hi).1; omega⟩
theorem rowTy_ne (j : Nat) : rowTy j ≠ 52 := by
  unfold rowTy
  split <;> omega
theorem LinkAt.row_ne (h : LinkAt L lb st R C W) {j : Nat} (hj : j < 6) {p : Addr} (hp : R j = some p) : p.block ≠ lb := by
  have ho := h.own j hj
  rw [hp] at ho
  rcases ho.2 with ⟨hv, _⟩ | ⟨g, cap, cur, hv, _, hh, _⟩
  · cases hv
  · injection hv with hv
    injection hv with hv
    subst hv
    have hB : Bk W g (rowTy j) cur := hh
    exact hB.ne h.bk (rowTy_ne j)
/-- A world in which no block of the link has turned. -/
theorem LinkAt.same (h : LinkAt L lb st R C W) (hk : ∀ b, inLink lb R b → W'.heap[b]? = W.heap[b]?) : LinkAt L lb st R C W' :=
  ⟨(hk lb (.inl rfl)).trans h.bk, h.lo, fun j hj => own_keep (h.own j hj) fun p hp => hk p.block (.inr ⟨j, p, hj, hp, rfl⟩), h.dis⟩
theorem LinkAt.over (h : LinkAt L lb st R C W) (hb : Below W.heap.size W W') : LinkAt L lb st R C W' := h.same fun b hi => hb.block b (h.blocks b hi).2
theorem LinkAt.alloc (h : LinkAt L lb st R C W) (o : Obj) : LinkAt L lb st R C (W.alloc o) := h.over ((Below.refl _ W).alloc (Nat.le_refl _) o)
theorem LinkAt.drew (h : LinkAt L lb st R C W) : LinkAt L lb st R C W.drew := h.over ((Below.refl _ W).drew)

/-- One row is another, and cells with it. -/
theorem LinkAt.row (h : LinkAt L lb st R C W) {j : Nat} (hj : j < 6) {A' : Option Addr} {c' : Nat} (hsame : ∀ i, i < 6 → i ≠ j → rowLn st' i = rowLn st i ∧ rowXs st' i = rowXs st i)
    (hbk : Bk W' lb 52 (lkCells st' (upd R j A') (upd C j c'))) (hown : W'.ownsRow L (rowTy j) (rowSz j) (.slice A' (rowLn st' j) c') (rowLn st' j) (rowXs st' j))
    (hblk : ∀ b, b < W.heap.size → b ≠ lb → (∀ p, R j = some p → p.block ≠ b) → W'.heap[b]? = W.heap[b]?) (hA : ∀ p, A' = some p → (∃ q, R j = some q ∧ q.block = p.block) ∨ W.heap.size ≤ p.block)
    (hos : W'.os = W.os) (htape : W'.tape = W.tape) (hout : W'.output = W.output) (hsz : W.heap.size ≤ W'.heap.size) : LinkAt L lb st' (upd R j A') (upd C j c') W' ∧ Kept lb R (upd R j A') W W' := by
  have hd : ∀ i, i < 6 → i ≠ j → ∀ p q, A' = some p → R i = some q → p.block ≠ q.block := fun i hi hij p q hp hq => by
    rcases hA p hp with ⟨r, hr, hb⟩ | hb
    · have := h.dis j i hj hi (Ne.symm hij) r q hr hq
      omega
    · have := (own_lt (h.own i hi) q hq).2
      omega
  refine ⟨⟨hbk, h.lo, fun i hi => ?_, fun i k hi hk hik p q hp hq => ?_⟩, ⟨hos, htape, hout, hsz, fun b hb hn => ?_, fun b hb => ?_⟩⟩
  · by_cases hij : i = j
    · subst hij
      rw [upd_same, upd_same]
      exact hown
    · rw [upd_other _ _ hij, upd_other _ _ hij, (hsame i hi hij).1, (hsame i hi hij).2]
      exact own_keep (h.own i hi) fun p hp => hblk p.block (own_lt (h.own i hi) p hp).2 (h.row_ne hi hp) fun q hq => h.dis j i hj hi (Ne.symm hij) q p hq hp
  · by_cases hij : i = j
    · subst hij
      rw [upd_same] at hp
      rw [upd_other _ _ (Ne.symm hik)] at hq
      exact hd k hk (Ne.symm hik) p q hp hq
    · rw [upd_other _ _ hij] at hp
      by_cases hkj : k = j
      · subst hkj
        rw [upd_same] at hq
        exact fun e => hd i hi hij q p hq hp e.symm
      · rw [upd_other _ _ hkj] at hq
        exact h.dis i k hi hk hik p q hp hq
  · exact hblk b hb (fun e => hn (.inl e)) fun p hp e => hn (.inr ⟨j, p, hj, hp, e⟩)
  · rcases hb with rfl | ⟨i, p, hi, hp, rfl⟩
    · exact .inl (.inl rfl)
    · by_cases hij : i = j
      · subst hij
        rw [upd_same] at hp
        rcases hA p hp with ⟨q, hq, hb⟩ | hb
        · exact .inl (.inr ⟨i, q, hi, hq, hb⟩)
        · exact .inr hb
      · rw [upd_other _ _ hij] at hp
        exact .inl (.inr ⟨i, p, hi, hp, rfl⟩)
end

/-- A row is appended to, behind an alloc, and the link's cell says so. -/
theorem LinkAt.app {L lb : Nat} {st st' : Lk} {R : Nat → Option Addr} {C : Nat → Nat} {V w3 : World} {o : Obj} {j ci : Nat} {A1 : Option Addr} {c1 : Nat} {v : Value} (h : LinkAt L lb st R C V) (hj : j < 6)
    (hsame : ∀ i, i < 6 → i ≠ j → rowLn st' i = rowLn st i ∧ rowXs st' i = rowXs st i)
    (hown : w3.ownsRow L (rowTy j) (rowSz j) (.slice A1 (rowLn st' j) c1) (rowLn st' j) (rowXs st' j)) (hg : ((V.alloc o).drew).grownBy w3 (Value.slice (R j) (rowLn st j) (C j)).ownBlock)
    (hat : (Value.slice A1 (rowLn st' j) c1).ownBlock = (Value.slice (R j) (rowLn st j) (C j)).ownBlock ∨ (Value.slice A1 (rowLn st' j) c1).ownBlock = some ((V.alloc o).drew).heap.size)
    (hcells : (lkCells st R C).setIfInBounds ci v = lkCells st' (upd R j A1) (upd C j c1)) :
    LinkAt L lb st' (upd R j A1) (upd C j c1) (w3.setCell ⟨lb, ci, none⟩ v) ∧ Kept lb R (upd R j A1) V (w3.setCell ⟨lb, ci, none⟩ v) := by
  have hsz : ((V.alloc o).drew).heap.size = V.heap.size + 1 := by show (V.alloc o).heap.size = _; simp
  have hb3 : Bk w3 lb 52 (lkCells st R C) := ((h.bk.alloc o).drew).grown hg (own_ne_bk (h.own j hj) h.bk (rowTy_ne j))
  have hg1 := hg.size
  rw [hsz] at hg1
  refine h.row hj hsame ?_ ?_ (fun b hb hlb hr => ?_) (fun p hp => ?_) ?_ ?_ ?_ ?_
  · have := hb3.set ci v
    rwa [hcells] at this
  · refine own_keep hown fun p hp => Below.heap_setCell w3 ⟨lb, ci, none⟩ v p.block ?_
    subst hp
    rcases hown.2 with ⟨hv, _⟩ | ⟨g, cap, cur, hv, _, hh, _⟩
    · cases hv
    · injection hv with hv
      injection hv with hv
      subst hv
      have hB : Bk w3 g (rowTy j) cur := hh
      exact hB.ne hb3 (rowTy_ne j)
  · refine (Below.heap_setCell w3 ⟨lb, ci, none⟩ v b hlb).trans ((hg.block b (by omega) fun he => ?_).trans (Below.heap_alloc V o b hb))
    cases hR : R j with
    | none => rw [hR] at he; cases he
    | some p =>
      rw [hR] at he
      exact hr p hR (Option.some.inj he).symm
  · subst hp
    rcases hat with he | he
    · cases hR : R j with
      | none => rw [hR] at he; cases he
      | some q =>
        rw [hR] at he
        exact .inl ⟨q, rfl, (Option.some.inj he).symm⟩
    · rw [hsz] at he
      have := Option.some.inj he
      exact .inr (by omega)
  · exact hg.os
  · exact hg.tape
  · exact hg.output
  · simp [World.setCell]; omega

/-- What a call of the link leaves. -/
def LOut (L lb : Nat) (R : Nat → Option Addr) (W : World) (st' : Lk) (W' : World) : Prop := ∃ R' C', LinkAt L lb st' R' C' W' ∧ Kept lb R R' W W'


end Go.Proofs.Ytnbndhmdfheikaa.D

/- Walk of the document's put, at each end. By gen_d.py. -/
namespace Go.Proofs.Ytnbndhmdfheikaa.D
open Go.RowKit

set_option maxHeartbeats 4000000 in
set_option maxRecDepth 100000 in
theorem put_0 (L lb : Nat) (st : Lk) (R : Nat → Option Addr) (C : Nat → Nat) (W : World) (A : Option Addr) (n c : Nat) (fl : List Fr) (hl : LinkAt L lb st R C W) (hu : (st.u 0).length ≤ 4096) (hLW : L ≤ W.heap.size) (hn : n ≤ maxLen)
    (hr : Rd W W.heap.size 4 A n (frs fl)) (hA : ∀ p, A = some p → ¬ inLink lb R p.block) :
    Calls Try.prog 46 #[.pointer (some ⟨lb, 0, none⟩), .int .i64 0, .slice A n c] W fun e W' => e = .returned (.tuple #[]) ∧ LOut L lb R W (st.setU 0 (putU (st.u 0) fl)) W' := by
  have hfl : fl.length = n := by have := hr.1; rw [frs_len] at this; omega
  have HFL := Lib.hid hfl
  have HRD : Hid (∀ R' V, Kept lb R R' W V → Rd V W.heap.size 4 A n (frs fl)) := fun R' V hk => by
    by_cases h0 : 0 < n
    · obtain ⟨a, e, hb, _⟩ := hr.2 h0
      exact rd_block hr fun p hp => hk.block p.block (by rw [e] at hp; injection hp with hp; subst hp; exact hb) (hA p hp)
    · have e0 : n = 0 := by omega
      have e1 : frs fl = [] := List.eq_nil_of_length_eq_zero (by rw [hr.1, e0, Nat.zero_mul])
      rw [e0, e1]
      exact Rd.nil _ _ _ _
  have HL0 := Lib.hid hl
  obtain ⟨ul, hul⟩ : ∃ ul, ul = st.u 0 := ⟨_, rfl⟩
  have HU : Hid (∀ k, (putU ul (fl.take k)).length ≤ 4096) := fun k => putU_len _ _ (by rw [hul]; exact hu)
  rw [← hul]
  have HUL := Lib.hid hul
  clear hl hr hA hfl hu hul
  unfold maxLen at hn
  go_enter Try.func46, Try.ntmps46
  go_wp2
  go_loopw [10] (fun i wr => ∃ (k : Nat) (R' : Nat → Option Addr) (C' : Nat → Nat), k ≤ n ∧ i = .int .i64 k ∧ LinkAt L lb (st.setU 0 (putU ul (fl.take k))) R' C' wr ∧ Kept lb R R' W wr) (fun i _ => n - (intOf i).toNat)
  case atStart =>
    refine ⟨0, R, C, Nat.zero_le _, rfl, ?_, Kept.refl _ _ _⟩
    have e : st.setU 0 (putU ul (fl.take 0)) = st := by
      show Lk.mk st.e (upd st.u 0 (putU ul [])) st.g = st
      rw [putU_nil, HUL.out]
      have : upd st.u 0 (st.u 0) = st.u := by funext j; unfold upd; split <;> simp_all
      rw [this]
    rw [e]
    exact HL0.out
  case round =>
    obtain ⟨k, R1, C1, hk, rfl, hla, hke⟩ := hrel
    have HLA := Lib.hid hla
    have HKE := Lib.hid hke
    clear hla hke
    rename World => V
    by_cases hlt : k < n
    · have hkl : k < fl.length := by have := HFL.out; omega
      obtain ⟨a0, hA0, _, c0, c1, c2, c3⟩ := (HRD.out R1 V HKE.out).frame hkl
      obtain ⟨⟨fk, fn, ft, fb⟩, hx⟩ : ∃ x, x = fl[k] := ⟨_, rfl⟩
      rw [← hx] at c0 c1 c2 c3
      dsimp only at c0 c1 c2 c3
      have htk : fl.take (k + 1) = fl.take k ++ [⟨fk, fn, ft, fb⟩] := by rw [List.take_add_one, List.getElem?_eq_getElem hkl, ← hx]; rfl
      have HTK := Lib.hid htk
      subst hA0
      clear hx htk
      have hub := HU.out k
      obtain ⟨uk, huk⟩ : ∃ uk, uk = putU ul (fl.take k) := ⟨_, rfl⟩
      rw [← huk] at hub
      have HUK := Lib.hid huk
      rw [← huk] at HLA
      clear huk
      have i1 : (k : Int) < (n : Int) := by omega
      have i2 : (0 : Int) ≤ (k : Int) := by omega
      have i4 : IntKind.i64.wrap ((k : Int) + 1) = (k : Int) + 1 := IntWalk.i64_in _ (by omega)
      obtain ⟨V3, hV3⟩ : ∃ V3, V3 = V.alloc (.cells #[.int .i64 fk, .int .i64 fn, .int .i64 ft, .string fb] 44) := ⟨_, rfl⟩
      obtain ⟨bf, hbf⟩ : ∃ bf, bf = V.heap.size := ⟨_, rfl⟩
      have HBF : Hid (Bk V3 bf 44 #[.int .i64 fk, .int .i64 fn, .int .i64 ft, .string fb]) := by rw [hV3, hbf]; exact Bk.new _ _ _
      have HLA3 : Hid (LinkAt L lb (st.setU 0 uk) R1 C1 V3) := by rw [hV3]; exact HLA.out.alloc _
      have HKE3 : Hid (Kept lb R R1 W V3) := by rw [hV3]; exact HKE.out.trans (Kept.of_below _ _ ((Below.refl _ V).alloc (Nat.le_refl _) _))
      have hLV : L ≤ V3.heap.size := Nat.le_trans hLW HKE3.out.size
      have hown := HLA3.out.own 2 (by omega)
      have q0 : V3.cell? ⟨lb, 6, none⟩ = some (.slice (R1 2) uk.length (C1 2)) := by rw [HLA3.out.bk.cell]; simp [lkCells, Lk.setU, upd]
      have z0 := HLA3.out.bk.frozen 6
      have hlb := HLA3.out.bk.lt
      have ho' : V3.ownsRow L 44 4 (.slice (R1 2) uk.length (C1 2)) uk.length (frs uk) := by
        have := hown
        simpa [rowTy, rowSz, rowLn, rowXs, Lk.setU, upd] using this
      have HOW := Lib.hid ho'
      have HNF0 : Hid (some bf ≠ (Value.slice (R1 2) uk.length (C1 2)).ownBlock) := by
        have h0 := HLA.out.own 2 (by omega)
        rw [hbf]
        have h1 : V.ownsRow L 44 4 (.slice (R1 2) uk.length (C1 2)) uk.length (frs uk) := by simpa [rowTy, rowSz, rowLn, rowXs, Lk.setU, upd] using h0
        exact own_ne_ge h1 (Nat.le_refl _)
      go_upto_region 3 with (fail)
      rw [← hV3, ← hbf]
      clear hV3 hbf c0 c1 c2 c3 hown ho'
      obtain ⟨x0, x1, x2, x3, e0, e1, e2, e3, hxg⟩ := HBF.out.four
      by_cases hfull : uk.length < 4096
      · have i5 : (uk.length : Int) < 4096 := by omega
        obtain ⟨i0, hinf, hz0, hz1, hz2⟩ := info_parts info44
        have hry : Rd (V3.alloc (.cells #[.int .i64 fk, .int .i64 fn, .int .i64 ft, .string fb] 44)) (V3.heap.size + 1) 4 (some ⟨V3.heap.size, 0, none⟩) 1 (Fr.cells ⟨fk, fn, ft, fb⟩) := ⟨rfl, fun _ => ⟨_, rfl, by simp, World.news_of_block (Bk.new V3 44 #[.int .i64 fk, .int .i64 fn, .int .i64 ft, .string fb])⟩⟩
        have HRY := Lib.hid hry
        have fone := fcells_one ⟨fk, fn, ft, fb⟩
        clear hry
        have HS0 : Hid ((fun V => V.cell? ⟨lb, 6, none⟩ = some (.slice (R1 2) uk.length (C1 2)) ∧ V.cell? ⟨bf, 0, none⟩ = some (.int .i64 fk) ∧ V.cell? ⟨bf, 1, none⟩ = some (.int .i64 fn) ∧ V.cell? ⟨bf, 2, none⟩ = some (.int .i64 ft) ∧ V.cell? ⟨bf, 3, none⟩ = some (.string fb)) V3.drew) := ⟨q0, x0, x1, x2, x3⟩
        have HS1 : Hid ((fun V => V.cell? ⟨lb, 6, none⟩ = some (.slice (R1 2) uk.length (C1 2)) ∧ V.cell? ⟨bf, 0, none⟩ = some (.int .i64 fk) ∧ V.cell? ⟨bf, 1, none⟩ = some (.int .i64 fn) ∧ V.cell? ⟨bf, 2, none⟩ = some (.int .i64 ft) ∧ V.cell? ⟨bf, 3, none⟩ = some (.string fb)) (V3.alloc (.cells #[.int .i64 fk, .int .i64 fn, .int .i64 ft, .string fb] 44)).drew) := by
          obtain ⟨y0, y1, y2, y3, _, _, _, _, _⟩ := (HBF.out.alloc (.cells #[.int .i64 fk, .int .i64 fn, .int .i64 ft, .string fb] 44)).four
          refine ⟨?_, y0, y1, y2, y3⟩
          have h := (HLA3.out.bk.alloc (.cells #[.int .i64 fk, .int .i64 fn, .int .i64 ft, .string fb] 44)).cell 6
          rw [show (V3.alloc (.cells #[.int .i64 fk, .int .i64 fn, .int .i64 ft, .string fb] 44)).drew.cell? ⟨lb, 6, none⟩ = _ from h]
          simp [lkCells, Lk.setU, upd]
        have HNF : Hid (some bf ≠ (Value.slice (R1 2) uk.length (C1 2)).ownBlock) := HNF0.out
        have HNL : Hid (some lb ≠ (Value.slice (R1 2) uk.length (C1 2)).ownBlock) := own_ne_bk HOW.out HLA3.out.bk (by decide)
        go_upto_region 4 with (fail)
        refine region_anyL (fun V => V.cell? ⟨lb, 6, none⟩ = some (.slice (R1 2) uk.length (C1 2)) ∧ V.cell? ⟨bf, 0, none⟩ = some (.int .i64 fk) ∧ V.cell? ⟨bf, 1, none⟩ = some (.int .i64 fn) ∧ V.cell? ⟨bf, 2, none⟩ = some (.int .i64 ft) ∧ V.cell? ⟨bf, 3, none⟩ = some (.string fb)) 14 (by kernel_rfl) ?_
        refine anyL_take (i := 0) (oi := { dst := some 22, op := Op.move (Operand.tmp 0), type := 47, pos := "ref.go:20", after := #[], guard := none }) (v := ?_) rfl (by kernel_rfl) (by kernel_rfl) (by kernel_rfl) (by kernel_rfl) (fun _ _ _ h => h) (Or.inl ⟨by rfl, ?_⟩) (HS0.out) ?_
        rotate_left
        · intro w hSw
          try dsimp only at hSw
          obtain ⟨q0, q1, q2, q3, q4⟩ := hSw
          first | (go_simp <;> fail) | (go_simp; with_reducible rfl)
        try simp only [Act.put, List.setIfInBounds_toArray, List.set_cons_zero, List.set_cons_succ]
        refine anyL_take (i := 1) (oi := { dst := some 23, op := Op.move (Operand.tmp 1), type := 3, pos := "ref.go:20", after := #[], guard := none }) (v := ?_) rfl (by kernel_rfl) (by kernel_rfl) (by kernel_rfl) (by kernel_rfl) (fun _ _ _ h => h) (Or.inl ⟨by rfl, ?_⟩) (HS0.out) ?_
        rotate_left
        · intro w hSw
          try dsimp only at hSw
          obtain ⟨q0, q1, q2, q3, q4⟩ := hSw
          first | (go_simp <;> fail) | (go_simp; with_reducible rfl)
        try simp only [Act.put, List.setIfInBounds_toArray, List.set_cons_zero, List.set_cons_succ]
        refine anyL_take (i := 2) (oi := { dst := some 24, op := Op.move (Operand.tmp 0), type := 47, pos := "ref.go:20", after := #[], guard := none }) (v := ?_) rfl (by kernel_rfl) (by kernel_rfl) (by kernel_rfl) (by kernel_rfl) (fun _ _ _ h => h) (Or.inl ⟨by rfl, ?_⟩) (HS0.out) ?_
        rotate_left
        · intro w hSw
          try dsimp only at hSw
          obtain ⟨q0, q1, q2, q3, q4⟩ := hSw
          first | (go_simp <;> fail) | (go_simp; with_reducible rfl)
        try simp only [Act.put, List.setIfInBounds_toArray, List.set_cons_zero, List.set_cons_succ]
        refine anyL_take (i := 3) (oi := { dst := some 25, op := Op.move (Operand.tmp 1), type := 3, pos := "ref.go:20", after := #[], guard := none }) (v := ?_) rfl (by kernel_rfl) (by kernel_rfl) (by kernel_rfl) (by kernel_rfl) (fun _ _ _ h => h) (Or.inl ⟨by rfl, ?_⟩) (HS0.out) ?_
        rotate_left
        · intro w hSw
          try dsimp only at hSw
          obtain ⟨q0, q1, q2, q3, q4⟩ := hSw
          first | (go_simp <;> fail) | (go_simp; with_reducible rfl)
        try simp only [Act.put, List.setIfInBounds_toArray, List.set_cons_zero, List.set_cons_succ]
        refine anyL_take (i := 4) (oi := { dst := some 26, op := Op.nilCheck (Operand.tmp 24), type := 0, pos := "ref.go:20", after := #[{ on := 2, ground := Ground.data }], guard := none }) (v := ?_) rfl (by kernel_rfl) (by kernel_rfl) (by kernel_rfl) (by kernel_rfl) (fun _ _ _ h => h) (Or.inl ⟨by rfl, ?_⟩) (HS0.out) ?_
        rotate_left
        · intro w hSw
          try dsimp only at hSw
          obtain ⟨q0, q1, q2, q3, q4⟩ := hSw
          first | (go_simp <;> fail) | (go_simp; with_reducible rfl)
        try simp only [Act.put, List.setIfInBounds_toArray, List.set_cons_zero, List.set_cons_succ]
        refine anyL_take (i := 5) (oi := { dst := some 27, op := Op.fieldAddr 52 (Operand.tmp 26) 1, type := 0, pos := "ref.go:20", after := #[{ on := 4, ground := Ground.data }], guard := none }) (v := ?_) rfl (by kernel_rfl) (by kernel_rfl) (by kernel_rfl) (by kernel_rfl) (fun _ _ _ h => h) (Or.inl ⟨by rfl, ?_⟩) (HS0.out) ?_
        rotate_left
        · intro w hSw
          try dsimp only at hSw
          obtain ⟨q0, q1, q2, q3, q4⟩ := hSw
          first | (go_simp <;> fail) | (go_simp; with_reducible rfl)
        try simp only [Act.put, List.setIfInBounds_toArray, List.set_cons_zero, List.set_cons_succ]
        refine anyL_take (i := 6) (oi := { dst := some 28, op := Op.indexAddr 49 (Operand.tmp 27) (Operand.tmp 25), type := 0, pos := "ref.go:20", after := #[{ on := 5, ground := Ground.data }, { on := 3, ground := Ground.data }], guard := none }) (v := ?_) rfl (by kernel_rfl) (by kernel_rfl) (by kernel_rfl) (by kernel_rfl) (fun _ _ _ h => h) (Or.inl ⟨by rfl, ?_⟩) (HS0.out) ?_
        rotate_left
        · intro w hSw
          try dsimp only at hSw
          obtain ⟨q0, q1, q2, q3, q4⟩ := hSw
          first | (go_simp <;> fail) | (go_simp; with_reducible rfl)
        try simp only [Act.put, List.setIfInBounds_toArray, List.set_cons_zero, List.set_cons_succ]
        refine anyL_take (i := 7) (oi := { dst := some 29, op := Op.load 38 (Operand.tmp 28), type := 38, pos := "ref.go:20", after := #[{ on := 6, ground := Ground.data }], guard := none }) (v := ?_) rfl (by kernel_rfl) (by kernel_rfl) (by kernel_rfl) (by kernel_rfl) (fun _ _ _ h => h) (Or.inl ⟨by rfl, ?_⟩) (HS0.out) ?_
        rotate_left
        · intro w hSw
          try dsimp only at hSw
          obtain ⟨q0, q1, q2, q3, q4⟩ := hSw
          first | (go_simp <;> fail) | (go_simp; with_reducible rfl)
        try simp only [Act.put, List.setIfInBounds_toArray, List.set_cons_zero, List.set_cons_succ]
        refine anyL_take (i := 8) (oi := { dst := some 30, op := Op.load 44 (Operand.tmp 7), type := 44, pos := "ref.go:20", after := #[], guard := none }) (v := ?_) rfl (by kernel_rfl) (by kernel_rfl) (by kernel_rfl) (by kernel_rfl) (fun _ _ _ h => h) (Or.inl ⟨by rfl, ?_⟩) (HS0.out) ?_
        rotate_left
        · intro w hSw
          try dsimp only at hSw
          obtain ⟨q0, q1, q2, q3, q4⟩ := hSw
          first | (go_simp <;> fail) | (go_simp; with_reducible rfl)
        try simp only [Act.put, List.setIfInBounds_toArray, List.set_cons_zero, List.set_cons_succ]
        refine anyL_takeC [12, 13] (i := 11) (oi := { dst := some 33, op := Op.nilCheck (Operand.tmp 22), type := 0, pos := "ref.go:20", after := #[{ on := 0, ground := Ground.data }], guard := none }) (v := ?_) rfl (by kernel_rfl) (by kernel_rfl) (by kernel_rfl) (by kernel_rfl) (by kernel_rfl) (fun _ _ _ h => h) (Or.inl ⟨by rfl, ?_⟩) (HS0.out) ?_
        rotate_left
        · intro w hSw
          try dsimp only at hSw
          obtain ⟨q0, q1, q2, q3, q4⟩ := hSw
          first | (go_simp <;> fail) | (go_simp; with_reducible rfl)
        try simp only [Act.put, List.setIfInBounds_toArray, List.set_cons_zero, List.set_cons_succ]
        refine anyL_takeC [13] (i := 12) (oi := { dst := some 34, op := Op.fieldAddr 52 (Operand.tmp 33) 1, type := 0, pos := "ref.go:20", after := #[{ on := 11, ground := Ground.data }], guard := none }) (v := ?_) rfl (by kernel_rfl) (by kernel_rfl) (by kernel_rfl) (by kernel_rfl) (by kernel_rfl) (fun _ _ _ h => h) (Or.inl ⟨by rfl, ?_⟩) (HS0.out) ?_
        rotate_left
        · intro w hSw
          try dsimp only at hSw
          obtain ⟨q0, q1, q2, q3, q4⟩ := hSw
          first | (go_simp <;> fail) | (go_simp; with_reducible rfl)
        try simp only [Act.put, List.setIfInBounds_toArray, List.set_cons_zero, List.set_cons_succ]
        refine anyL_one (i := 9) (o := { dst := some 31, op := Op.buildSlice 38 1 #[(0, Operand.tmp 30)], type := 38, pos := "ref.go:20", after := #[{ on := 8, ground := Ground.data }], guard := none }) (by kernel_rfl) rfl (fun K hK => ?_)
        go_simp
        refine hK.out _ _ (fun _ => HS1.out) ?_
        clear hK K
        try simp only [Act.put, List.setIfInBounds_toArray, List.set_cons_zero, List.set_cons_succ]
        refine anyL_one (i := 10) (o := { dst := some 32, op := Op.call { callee := Callee.builtin Builtin.append, args := #[Operand.tmp 29, Operand.tmp 31], argTypes := #[38, 38] }, type := 38, pos := "ref.go:20", after := #[{ on := 7, ground := Ground.data }, { on := 9, ground := Ground.data }], guard := none }) (by kernel_rfl) rfl (fun K hK => ?_)
        refine step_append_rd _ rfl (.tmp 29) (.tmp 31) _ rfl L 44 i0 _ 4 40 Try.underlying38 hinf hz0 hz1 hz2 rfl (by omega) _ uk.length (frs uk) rfl (HOW.out.alloc _).drew (V3.heap.size + 1) _ 1 1 _ rfl HRY.out.drew fone (by unfold maxLen; omega) (by omega) (by simp; omega) ?_
        intro A1 c1 w3 h1 h2 hown1 hg1x hat1x
        have hg1 : ((V3.alloc (.cells #[.int .i64 fk, .int .i64 fn, .int .i64 ft, .string fb] 44)).drew).grownBy w3 (Value.slice (R1 2) uk.length (C1 2)).ownBlock := hg1x
        have hat1 : (Value.slice A1 (uk.length + 1) c1).ownBlock = (Value.slice (R1 2) uk.length (C1 2)).ownBlock ∨ (Value.slice A1 (uk.length + 1) c1).ownBlock = some ((V3.alloc (.cells #[.int .i64 fk, .int .i64 fn, .int .i64 ft, .string fb] 44)).drew).heap.size := hat1x
        clear hg1x hat1x
        have HBF3 : Hid (Bk w3 bf 44 #[.int .i64 fk, .int .i64 fn, .int .i64 ft, .string fb]) := ((HBF.out.alloc _).drew).grown hg1 HNF.out
        have HLB3 : Hid (Bk w3 lb 52 (lkCells (st.setU 0 uk) R1 C1)) := ((HLA3.out.bk.alloc _).drew).grown hg1 HNL.out
        obtain ⟨x0, x1, x2, x3, e0, e1, e2, e3, hxg⟩ := HBF3.out.four
        have q0 : w3.cell? ⟨lb, 6, none⟩ = some (.slice (R1 2) uk.length (C1 2)) := by rw [HLB3.out.cell]; simp [lkCells, Lk.setU, upd]
        have z0 := HLB3.out.frozen 6
        have hlb := HLB3.out.lt
        refine hK.out _ _ (fun _ => ⟨q0, x0, x1, x2, x3⟩) ?_
        clear hK K
        try simp only [Act.put, List.setIfInBounds_toArray, List.set_cons_zero, List.set_cons_succ]
        refine anyL_take (i := 13) (oi := { dst := some 35, op := Op.indexAddr 49 (Operand.tmp 34) (Operand.tmp 23), type := 0, pos := "ref.go:20", after := #[{ on := 12, ground := Ground.data }, { on := 1, ground := Ground.data }, { on := 0, ground := Ground.phase }, { on := 1, ground := Ground.phase }, { on := 2, ground := Ground.phase }, { on := 3, ground := Ground.phase }, { on := 4, ground := Ground.phase }, { on := 5, ground := Ground.phase }, { on := 6, ground := Ground.phase }, { on := 7, ground := Ground.phase }, { on := 8, ground := Ground.phase }, { on := 9, ground := Ground.phase }, { on := 10, ground := Ground.phase }], guard := none }) (v := ?_) rfl (by kernel_rfl) (by kernel_rfl) (by kernel_rfl) (by kernel_rfl) (fun _ _ _ h => h) (Or.inl ⟨by rfl, ?_⟩) (⟨q0, x0, x1, x2, x3⟩) ?_
        rotate_left
        · intro w hSw
          try dsimp only at hSw
          obtain ⟨q0, q1, q2, q3, q4⟩ := hSw
          first | (go_simp <;> fail) | (go_simp; with_reducible rfl)
        try simp only [Act.put, List.setIfInBounds_toArray, List.set_cons_zero, List.set_cons_succ]
        refine anyL_one (i := 14) (o := { dst := none, op := Op.store 38 (Operand.tmp 35) (Operand.tmp 32), type := 0, pos := "ref.go:20", after := #[{ on := 13, ground := Ground.data }, { on := 10, ground := Ground.data }, { on := 10, ground := Ground.chain }, { on := 0, ground := Ground.phase }, { on := 1, ground := Ground.phase }, { on := 2, ground := Ground.phase }, { on := 3, ground := Ground.phase }, { on := 4, ground := Ground.phase }, { on := 5, ground := Ground.phase }, { on := 6, ground := Ground.phase }, { on := 7, ground := Ground.phase }, { on := 8, ground := Ground.phase }, { on := 9, ground := Ground.phase }, { on := 10, ground := Ground.phase }], guard := none }) (by kernel_rfl) rfl (fun K hK => ?_)
        go_simp
        refine hK.out _ _ (fun h0 => absurd rfl h0) ?_
        clear hK K
        try simp only [Act.put, List.setIfInBounds_toArray, List.set_cons_zero, List.set_cons_succ]
        refine anyL_done (by kernel_rfl) ?_ _
        have hfr : frs (uk ++ [⟨fk, fn, ft, fb⟩]) = frs uk ++ Fr.cells ⟨fk, fn, ft, fb⟩ := by rw [frs_append]; simp [frs]
        have hst : (st.setU 0 (putU ul (fl.take (k + 1)))) = st.setU 0 (uk ++ [⟨fk, fn, ft, fb⟩]) := by rw [HTK.out, putU_snoc, ← HUK.out, if_pos hfull]
        have hln : (uk ++ [(⟨fk, fn, ft, fb⟩ : Fr)]).length = uk.length + 1 := by simp
        have hres := LinkAt.app (st' := st.setU 0 (uk ++ [⟨fk, fn, ft, fb⟩])) (j := 2) (ci := 6) (v := .slice A1 (uk.length + 1) c1) HLA3.out (by omega)
          (fun i hi hne => by
            have h6 : i = 0 ∨ i = 1 ∨ i = 2 ∨ i = 3 ∨ i = 4 ∨ i = 5 := by omega
            rcases h6 with rfl | rfl | rfl | rfl | rfl | rfl <;> first | exact absurd rfl hne | simp [rowLn, rowXs, Lk.setU, upd])
          (by simpa [rowTy, rowSz, rowLn, rowXs, Lk.setU, upd, hfr] using hown1) (by simpa [rowLn, Lk.setU, upd] using hg1) (by simpa [rowLn, Lk.setU, upd] using hat1) (by simp [lkCells, Lk.setU, upd])
        have HRES := Lib.hid hres
        have HST := Lib.hid hst
        clear hres hst hfr hln hown1 hg1 hat1 x0 x1 x2 x3 e0 e1 e2 e3 hxg q0 z0 hlb
        go_wp2
        exact ⟨⟨k + 1, _, _, by omega, by push_cast; rfl, by rw [HST.out]; exact HRES.out.1, HKE3.out.trans HRES.out.2⟩, by simp only [intOf]; omega⟩
      · have i5 : ¬ (uk.length : Int) < 4096 := by omega
        go_wp2
        refine ⟨⟨k + 1, R1, C1, by omega, by push_cast; rfl, ?_, HKE3.out⟩, by simp only [intOf]; omega⟩
        rw [HTK.out, putU_snoc, ← HUK.out, if_neg hfull]
        exact HLA3.out
    · have i3 : ¬ ((k : Int) < (n : Int)) := by omega
      have hkn : fl.take k = fl := List.take_of_length_le (by have := HFL.out; omega)
      rw [hkn] at HLA
      go_wp2
      refine bodyPost_end (results_none rfl _ _ _) rfl ?_
      exact ⟨rfl, R1, C1, HLA.out, HKE.out⟩

set_option maxHeartbeats 4000000 in
set_option maxRecDepth 100000 in
theorem put_1 (L lb : Nat) (st : Lk) (R : Nat → Option Addr) (C : Nat → Nat) (W : World) (A : Option Addr) (n c : Nat) (fl : List Fr) (hl : LinkAt L lb st R C W) (hu : (st.u 1).length ≤ 4096) (hLW : L ≤ W.heap.size) (hn : n ≤ maxLen)
    (hr : Rd W W.heap.size 4 A n (frs fl)) (hA : ∀ p, A = some p → ¬ inLink lb R p.block) :
    Calls Try.prog 46 #[.pointer (some ⟨lb, 0, none⟩), .int .i64 1, .slice A n c] W fun e W' => e = .returned (.tuple #[]) ∧ LOut L lb R W (st.setU 1 (putU (st.u 1) fl)) W' := by
  have hfl : fl.length = n := by have := hr.1; rw [frs_len] at this; omega
  have HFL := Lib.hid hfl
  have HRD : Hid (∀ R' V, Kept lb R R' W V → Rd V W.heap.size 4 A n (frs fl)) := fun R' V hk => by
    by_cases h0 : 0 < n
    · obtain ⟨a, e, hb, _⟩ := hr.2 h0
      exact rd_block hr fun p hp => hk.block p.block (by rw [e] at hp; injection hp with hp; subst hp; exact hb) (hA p hp)
    · have e0 : n = 0 := by omega
      have e1 : frs fl = [] := List.eq_nil_of_length_eq_zero (by rw [hr.1, e0, Nat.zero_mul])
      rw [e0, e1]
      exact Rd.nil _ _ _ _
  have HL0 := Lib.hid hl
  obtain ⟨ul, hul⟩ : ∃ ul, ul = st.u 1 := ⟨_, rfl⟩
  have HU : Hid (∀ k, (putU ul (fl.take k)).length ≤ 4096) := fun k => putU_len _ _ (by rw [hul]; exact hu)
  rw [← hul]
  have HUL := Lib.hid hul
  clear hl hr hA hfl hu hul
  unfold maxLen at hn
  go_enter Try.func46, Try.ntmps46
  go_wp2
  go_loopw [10] (fun i wr => ∃ (k : Nat) (R' : Nat → Option Addr) (C' : Nat → Nat), k ≤ n ∧ i = .int .i64 k ∧ LinkAt L lb (st.setU 1 (putU ul (fl.take k))) R' C' wr ∧ Kept lb R R' W wr) (fun i _ => n - (intOf i).toNat)
  case atStart =>
    refine ⟨0, R, C, Nat.zero_le _, rfl, ?_, Kept.refl _ _ _⟩
    have e : st.setU 1 (putU ul (fl.take 0)) = st := by
      show Lk.mk st.e (upd st.u 1 (putU ul [])) st.g = st
      rw [putU_nil, HUL.out]
      have : upd st.u 1 (st.u 1) = st.u := by funext j; unfold upd; split <;> simp_all
      rw [this]
    rw [e]
    exact HL0.out
  case round =>
    obtain ⟨k, R1, C1, hk, rfl, hla, hke⟩ := hrel
    have HLA := Lib.hid hla
    have HKE := Lib.hid hke
    clear hla hke
    rename World => V
    by_cases hlt : k < n
    · have hkl : k < fl.length := by have := HFL.out; omega
      obtain ⟨a0, hA0, _, c0, c1, c2, c3⟩ := (HRD.out R1 V HKE.out).frame hkl
      obtain ⟨⟨fk, fn, ft, fb⟩, hx⟩ : ∃ x, x = fl[k] := ⟨_, rfl⟩
      rw [← hx] at c0 c1 c2 c3
      dsimp only at c0 c1 c2 c3
      have htk : fl.take (k + 1) = fl.take k ++ [⟨fk, fn, ft, fb⟩] := by rw [List.take_add_one, List.getElem?_eq_getElem hkl, ← hx]; rfl
      have HTK := Lib.hid htk
      subst hA0
      clear hx htk
      have hub := HU.out k
      obtain ⟨uk, huk⟩ : ∃ uk, uk = putU ul (fl.take k) := ⟨_, rfl⟩
      rw [← huk] at hub
      have HUK := Lib.hid huk
      rw [← huk] at HLA
      clear huk
      have i1 : (k : Int) < (n : Int) := by omega
      have i2 : (0 : Int) ≤ (k : Int) := by omega
      have i4 : IntKind.i64.wrap ((k : Int) + 1) = (k : Int) + 1 := IntWalk.i64_in _ (by omega)
      obtain ⟨V3, hV3⟩ : ∃ V3, V3 = V.alloc (.cells #[.int .i64 fk, .int .i64 fn, .int .i64 ft, .string fb] 44) := ⟨_, rfl⟩
      obtain ⟨bf, hbf⟩ : ∃ bf, bf = V.heap.size := ⟨_, rfl⟩
      have HBF : Hid (Bk V3 bf 44 #[.int .i64 fk, .int .i64 fn, .int .i64 ft, .string fb]) := by rw [hV3, hbf]; exact Bk.new _ _ _
      have HLA3 : Hid (LinkAt L lb (st.setU 1 uk) R1 C1 V3) := by rw [hV3]; exact HLA.out.alloc _
      have HKE3 : Hid (Kept lb R R1 W V3) := by rw [hV3]; exact HKE.out.trans (Kept.of_below _ _ ((Below.refl _ V).alloc (Nat.le_refl _) _))
      have hLV : L ≤ V3.heap.size := Nat.le_trans hLW HKE3.out.size
      have hown := HLA3.out.own 3 (by omega)
      have q0 : V3.cell? ⟨lb, 7, none⟩ = some (.slice (R1 3) uk.length (C1 3)) := by rw [HLA3.out.bk.cell]; simp [lkCells, Lk.setU, upd]
      have z0 := HLA3.out.bk.frozen 7
      have hlb := HLA3.out.bk.lt
      have ho' : V3.ownsRow L 44 4 (.slice (R1 3) uk.length (C1 3)) uk.length (frs uk) := by
        have := hown
        simpa [rowTy, rowSz, rowLn, rowXs, Lk.setU, upd] using this
      have HOW := Lib.hid ho'
      have HNF0 : Hid (some bf ≠ (Value.slice (R1 3) uk.length (C1 3)).ownBlock) := by
        have h0 := HLA.out.own 3 (by omega)
        rw [hbf]
        have h1 : V.ownsRow L 44 4 (.slice (R1 3) uk.length (C1 3)) uk.length (frs uk) := by simpa [rowTy, rowSz, rowLn, rowXs, Lk.setU, upd] using h0
        exact own_ne_ge h1 (Nat.le_refl _)
      go_upto_region 3 with (fail)
      rw [← hV3, ← hbf]
      clear hV3 hbf c0 c1 c2 c3 hown ho'
      obtain ⟨x0, x1, x2, x3, e0, e1, e2, e3, hxg⟩ := HBF.out.four
      by_cases hfull : uk.length < 4096
      · have i5 : (uk.length : Int) < 4096 := by omega
        obtain ⟨i0, hinf, hz0, hz1, hz2⟩ := info_parts info44
        have hry : Rd (V3.alloc (.cells #[.int .i64 fk, .int .i64 fn, .int .i64 ft, .string fb] 44)) (V3.heap.size + 1) 4 (some ⟨V3.heap.size, 0, none⟩) 1 (Fr.cells ⟨fk, fn, ft, fb⟩) := ⟨rfl, fun _ => ⟨_, rfl, by simp, World.news_of_block (Bk.new V3 44 #[.int .i64 fk, .int .i64 fn, .int .i64 ft, .string fb])⟩⟩
        have HRY := Lib.hid hry
        have fone := fcells_one ⟨fk, fn, ft, fb⟩
        clear hry
        have HS0 : Hid ((fun V => V.cell? ⟨lb, 7, none⟩ = some (.slice (R1 3) uk.length (C1 3)) ∧ V.cell? ⟨bf, 0, none⟩ = some (.int .i64 fk) ∧ V.cell? ⟨bf, 1, none⟩ = some (.int .i64 fn) ∧ V.cell? ⟨bf, 2, none⟩ = some (.int .i64 ft) ∧ V.cell? ⟨bf, 3, none⟩ = some (.string fb)) V3.drew) := ⟨q0, x0, x1, x2, x3⟩
        have HS1 : Hid ((fun V => V.cell? ⟨lb, 7, none⟩ = some (.slice (R1 3) uk.length (C1 3)) ∧ V.cell? ⟨bf, 0, none⟩ = some (.int .i64 fk) ∧ V.cell? ⟨bf, 1, none⟩ = some (.int .i64 fn) ∧ V.cell? ⟨bf, 2, none⟩ = some (.int .i64 ft) ∧ V.cell? ⟨bf, 3, none⟩ = some (.string fb)) (V3.alloc (.cells #[.int .i64 fk, .int .i64 fn, .int .i64 ft, .string fb] 44)).drew) := by
          obtain ⟨y0, y1, y2, y3, _, _, _, _, _⟩ := (HBF.out.alloc (.cells #[.int .i64 fk, .int .i64 fn, .int .i64 ft, .string fb] 44)).four
          refine ⟨?_, y0, y1, y2, y3⟩
          have h := (HLA3.out.bk.alloc (.cells #[.int .i64 fk, .int .i64 fn, .int .i64 ft, .string fb] 44)).cell 7
          rw [show (V3.alloc (.cells #[.int .i64 fk, .int .i64 fn, .int .i64 ft, .string fb] 44)).drew.cell? ⟨lb, 7, none⟩ = _ from h]
          simp [lkCells, Lk.setU, upd]
        have HNF : Hid (some bf ≠ (Value.slice (R1 3) uk.length (C1 3)).ownBlock) := HNF0.out
        have HNL : Hid (some lb ≠ (Value.slice (R1 3) uk.length (C1 3)).ownBlock) := own_ne_bk HOW.out HLA3.out.bk (by decide)
        go_upto_region 4 with (fail)
        refine region_anyL (fun V => V.cell? ⟨lb, 7, none⟩ = some (.slice (R1 3) uk.length (C1 3)) ∧ V.cell? ⟨bf, 0, none⟩ = some (.int .i64 fk) ∧ V.cell? ⟨bf, 1, none⟩ = some (.int .i64 fn) ∧ V.cell? ⟨bf, 2, none⟩ = some (.int .i64 ft) ∧ V.cell? ⟨bf, 3, none⟩ = some (.string fb)) 14 (by kernel_rfl) ?_
        refine anyL_take (i := 0) (oi := { dst := some 22, op := Op.move (Operand.tmp 0), type := 47, pos := "ref.go:20", after := #[], guard := none }) (v := ?_) rfl (by kernel_rfl) (by kernel_rfl) (by kernel_rfl) (by kernel_rfl) (fun _ _ _ h => h) (Or.inl ⟨by rfl, ?_⟩) (HS0.out) ?_
        rotate_left
        · intro w hSw
          try dsimp only at hSw
          obtain ⟨q0, q1, q2, q3, q4⟩ := hSw
          first | (go_simp <;> fail) | (go_simp; with_reducible rfl)
        try simp only [Act.put, List.setIfInBounds_toArray, List.set_cons_zero, List.set_cons_succ]
        refine anyL_take (i := 1) (oi := { dst := some 23, op := Op.move (Operand.tmp 1), type := 3, pos := "ref.go:20", after := #[], guard := none }) (v := ?_) rfl (by kernel_rfl) (by kernel_rfl) (by kernel_rfl) (by kernel_rfl) (fun _ _ _ h => h) (Or.inl ⟨by rfl, ?_⟩) (HS0.out) ?_
        rotate_left
        · intro w hSw
          try dsimp only at hSw
          obtain ⟨q0, q1, q2, q3, q4⟩ := hSw
          first | (go_simp <;> fail) | (go_simp; with_reducible rfl)
        try simp only [Act.put, List.setIfInBounds_toArray, List.set_cons_zero, List.set_cons_succ]
        refine anyL_take (i := 2) (oi := { dst := some 24, op := Op.move (Operand.tmp 0), type := 47, pos := "ref.go:20", after := #[], guard := none }) (v := ?_) rfl (by kernel_rfl) (by kernel_rfl) (by kernel_rfl) (by kernel_rfl) (fun _ _ _ h => h) (Or.inl ⟨by rfl, ?_⟩) (HS0.out) ?_
        rotate_left
        · intro w hSw
          try dsimp only at hSw
          obtain ⟨q0, q1, q2, q3, q4⟩ := hSw
          first | (go_simp <;> fail) | (go_simp; with_reducible rfl)
        try simp only [Act.put, List.setIfInBounds_toArray, List.set_cons_zero, List.set_cons_succ]
        refine anyL_take (i := 3) (oi := { dst := some 25, op := Op.move (Operand.tmp 1), type := 3, pos := "ref.go:20", after := #[], guard := none }) (v := ?_) rfl (by kernel_rfl) (by kernel_rfl) (by kernel_rfl) (by kernel_rfl) (fun _ _ _ h => h) (Or.inl ⟨by rfl, ?_⟩) (HS0.out) ?_
        rotate_left
        · intro w hSw
          try dsimp only at hSw
          obtain ⟨q0, q1, q2, q3, q4⟩ := hSw
          first | (go_simp <;> fail) | (go_simp; with_reducible rfl)
        try simp only [Act.put, List.setIfInBounds_toArray, List.set_cons_zero, List.set_cons_succ]
        refine anyL_take (i := 4) (oi := { dst := some 26, op := Op.nilCheck (Operand.tmp 24), type := 0, pos := "ref.go:20", after := #[{ on := 2, ground := Ground.data }], guard := none }) (v := ?_) rfl (by kernel_rfl) (by kernel_rfl) (by kernel_rfl) (by kernel_rfl) (fun _ _ _ h => h) (Or.inl ⟨by rfl, ?_⟩) (HS0.out) ?_
        rotate_left
        · intro w hSw
          try dsimp only at hSw
          obtain ⟨q0, q1, q2, q3, q4⟩ := hSw
          first | (go_simp <;> fail) | (go_simp; with_reducible rfl)
        try simp only [Act.put, List.setIfInBounds_toArray, List.set_cons_zero, List.set_cons_succ]
        refine anyL_take (i := 5) (oi := { dst := some 27, op := Op.fieldAddr 52 (Operand.tmp 26) 1, type := 0, pos := "ref.go:20", after := #[{ on := 4, ground := Ground.data }], guard := none }) (v := ?_) rfl (by kernel_rfl) (by kernel_rfl) (by kernel_rfl) (by kernel_rfl) (fun _ _ _ h => h) (Or.inl ⟨by rfl, ?_⟩) (HS0.out) ?_
        rotate_left
        · intro w hSw
          try dsimp only at hSw
          obtain ⟨q0, q1, q2, q3, q4⟩ := hSw
          first | (go_simp <;> fail) | (go_simp; with_reducible rfl)
        try simp only [Act.put, List.setIfInBounds_toArray, List.set_cons_zero, List.set_cons_succ]
        refine anyL_take (i := 6) (oi := { dst := some 28, op := Op.indexAddr 49 (Operand.tmp 27) (Operand.tmp 25), type := 0, pos := "ref.go:20", after := #[{ on := 5, ground := Ground.data }, { on := 3, ground := Ground.data }], guard := none }) (v := ?_) rfl (by kernel_rfl) (by kernel_rfl) (by kernel_rfl) (by kernel_rfl) (fun _ _ _ h => h) (Or.inl ⟨by rfl, ?_⟩) (HS0.out) ?_
        rotate_left
        · intro w hSw
          try dsimp only at hSw
          obtain ⟨q0, q1, q2, q3, q4⟩ := hSw
          first | (go_simp <;> fail) | (go_simp; with_reducible rfl)
        try simp only [Act.put, List.setIfInBounds_toArray, List.set_cons_zero, List.set_cons_succ]
        refine anyL_take (i := 7) (oi := { dst := some 29, op := Op.load 38 (Operand.tmp 28), type := 38, pos := "ref.go:20", after := #[{ on := 6, ground := Ground.data }], guard := none }) (v := ?_) rfl (by kernel_rfl) (by kernel_rfl) (by kernel_rfl) (by kernel_rfl) (fun _ _ _ h => h) (Or.inl ⟨by rfl, ?_⟩) (HS0.out) ?_
        rotate_left
        · intro w hSw
          try dsimp only at hSw
          obtain ⟨q0, q1, q2, q3, q4⟩ := hSw
          first | (go_simp <;> fail) | (go_simp; with_reducible rfl)
        try simp only [Act.put, List.setIfInBounds_toArray, List.set_cons_zero, List.set_cons_succ]
        refine anyL_take (i := 8) (oi := { dst := some 30, op := Op.load 44 (Operand.tmp 7), type := 44, pos := "ref.go:20", after := #[], guard := none }) (v := ?_) rfl (by kernel_rfl) (by kernel_rfl) (by kernel_rfl) (by kernel_rfl) (fun _ _ _ h => h) (Or.inl ⟨by rfl, ?_⟩) (HS0.out) ?_
        rotate_left
        · intro w hSw
          try dsimp only at hSw
          obtain ⟨q0, q1, q2, q3, q4⟩ := hSw
          first | (go_simp <;> fail) | (go_simp; with_reducible rfl)
        try simp only [Act.put, List.setIfInBounds_toArray, List.set_cons_zero, List.set_cons_succ]
        refine anyL_takeC [12, 13] (i := 11) (oi := { dst := some 33, op := Op.nilCheck (Operand.tmp 22), type := 0, pos := "ref.go:20", after := #[{ on := 0, ground := Ground.data }], guard := none }) (v := ?_) rfl (by kernel_rfl) (by kernel_rfl) (by kernel_rfl) (by kernel_rfl) (by kernel_rfl) (fun _ _ _ h => h) (Or.inl ⟨by rfl, ?_⟩) (HS0.out) ?_
        rotate_left
        · intro w hSw
          try dsimp only at hSw
          obtain ⟨q0, q1, q2, q3, q4⟩ := hSw
          first | (go_simp <;> fail) | (go_simp; with_reducible rfl)
        try simp only [Act.put, List.setIfInBounds_toArray, List.set_cons_zero, List.set_cons_succ]
        refine anyL_takeC [13] (i := 12) (oi := { dst := some 34, op := Op.fieldAddr 52 (Operand.tmp 33) 1, type := 0, pos := "ref.go:20", after := #[{ on := 11, ground := Ground.data }], guard := none }) (v := ?_) rfl (by kernel_rfl) (by kernel_rfl) (by kernel_rfl) (by kernel_rfl) (by kernel_rfl) (fun _ _ _ h => h) (Or.inl ⟨by rfl, ?_⟩) (HS0.out) ?_
        rotate_left
        · intro w hSw
          try dsimp only at hSw
          obtain ⟨q0, q1, q2, q3, q4⟩ := hSw
          first | (go_simp <;> fail) | (go_simp; with_reducible rfl)
        try simp only [Act.put, List.setIfInBounds_toArray, List.set_cons_zero, List.set_cons_succ]
        refine anyL_one (i := 9) (o := { dst := some 31, op := Op.buildSlice 38 1 #[(0, Operand.tmp 30)], type := 38, pos := "ref.go:20", after := #[{ on := 8, ground := Ground.data }], guard := none }) (by kernel_rfl) rfl (fun K hK => ?_)
        go_simp
        refine hK.out _ _ (fun _ => HS1.out) ?_
        clear hK K
        try simp only [Act.put, List.setIfInBounds_toArray, List.set_cons_zero, List.set_cons_succ]
        refine anyL_one (i := 10) (o := { dst := some 32, op := Op.call { callee := Callee.builtin Builtin.append, args := #[Operand.tmp 29, Operand.tmp 31], argTypes := #[38, 38] }, type := 38, pos := "ref.go:20", after := #[{ on := 7, ground := Ground.data }, { on := 9, ground := Ground.data }], guard := none }) (by kernel_rfl) rfl (fun K hK => ?_)
        refine step_append_rd _ rfl (.tmp 29) (.tmp 31) _ rfl L 44 i0 _ 4 40 Try.underlying38 hinf hz0 hz1 hz2 rfl (by omega) _ uk.length (frs uk) rfl (HOW.out.alloc _).drew (V3.heap.size + 1) _ 1 1 _ rfl HRY.out.drew fone (by unfold maxLen; omega) (by omega) (by simp; omega) ?_
        intro A1 c1 w3 h1 h2 hown1 hg1x hat1x
        have hg1 : ((V3.alloc (.cells #[.int .i64 fk, .int .i64 fn, .int .i64 ft, .string fb] 44)).drew).grownBy w3 (Value.slice (R1 3) uk.length (C1 3)).ownBlock := hg1x
        have hat1 : (Value.slice A1 (uk.length + 1) c1).ownBlock = (Value.slice (R1 3) uk.length (C1 3)).ownBlock ∨ (Value.slice A1 (uk.length + 1) c1).ownBlock = some ((V3.alloc (.cells #[.int .i64 fk, .int .i64 fn, .int .i64 ft, .string fb] 44)).drew).heap.size := hat1x
        clear hg1x hat1x
        have HBF3 : Hid (Bk w3 bf 44 #[.int .i64 fk, .int .i64 fn, .int .i64 ft, .string fb]) := ((HBF.out.alloc _).drew).grown hg1 HNF.out
        have HLB3 : Hid (Bk w3 lb 52 (lkCells (st.setU 1 uk) R1 C1)) := ((HLA3.out.bk.alloc _).drew).grown hg1 HNL.out
        obtain ⟨x0, x1, x2, x3, e0, e1, e2, e3, hxg⟩ := HBF3.out.four
        have q0 : w3.cell? ⟨lb, 7, none⟩ = some (.slice (R1 3) uk.length (C1 3)) := by rw [HLB3.out.cell]; simp [lkCells, Lk.setU, upd]
        have z0 := HLB3.out.frozen 7
        have hlb := HLB3.out.lt
        refine hK.out _ _ (fun _ => ⟨q0, x0, x1, x2, x3⟩) ?_
        clear hK K
        try simp only [Act.put, List.setIfInBounds_toArray, List.set_cons_zero, List.set_cons_succ]
        refine anyL_take (i := 13) (oi := { dst := some 35, op := Op.indexAddr 49 (Operand.tmp 34) (Operand.tmp 23), type := 0, pos := "ref.go:20", after := #[{ on := 12, ground := Ground.data }, { on := 1, ground := Ground.data }, { on := 0, ground := Ground.phase }, { on := 1, ground := Ground.phase }, { on := 2, ground := Ground.phase }, { on := 3, ground := Ground.phase }, { on := 4, ground := Ground.phase }, { on := 5, ground := Ground.phase }, { on := 6, ground := Ground.phase }, { on := 7, ground := Ground.phase }, { on := 8, ground := Ground.phase }, { on := 9, ground := Ground.phase }, { on := 10, ground := Ground.phase }], guard := none }) (v := ?_) rfl (by kernel_rfl) (by kernel_rfl) (by kernel_rfl) (by kernel_rfl) (fun _ _ _ h => h) (Or.inl ⟨by rfl, ?_⟩) (⟨q0, x0, x1, x2, x3⟩) ?_
        rotate_left
        · intro w hSw
          try dsimp only at hSw
          obtain ⟨q0, q1, q2, q3, q4⟩ := hSw
          first | (go_simp <;> fail) | (go_simp; with_reducible rfl)
        try simp only [Act.put, List.setIfInBounds_toArray, List.set_cons_zero, List.set_cons_succ]
        refine anyL_one (i := 14) (o := { dst := none, op := Op.store 38 (Operand.tmp 35) (Operand.tmp 32), type := 0, pos := "ref.go:20", after := #[{ on := 13, ground := Ground.data }, { on := 10, ground := Ground.data }, { on := 10, ground := Ground.chain }, { on := 0, ground := Ground.phase }, { on := 1, ground := Ground.phase }, { on := 2, ground := Ground.phase }, { on := 3, ground := Ground.phase }, { on := 4, ground := Ground.phase }, { on := 5, ground := Ground.phase }, { on := 6, ground := Ground.phase }, { on := 7, ground := Ground.phase }, { on := 8, ground := Ground.phase }, { on := 9, ground := Ground.phase }, { on := 10, ground := Ground.phase }], guard := none }) (by kernel_rfl) rfl (fun K hK => ?_)
        go_simp
        refine hK.out _ _ (fun h0 => absurd rfl h0) ?_
        clear hK K
        try simp only [Act.put, List.setIfInBounds_toArray, List.set_cons_zero, List.set_cons_succ]
        refine anyL_done (by kernel_rfl) ?_ _
        have hfr : frs (uk ++ [⟨fk, fn, ft, fb⟩]) = frs uk ++ Fr.cells ⟨fk, fn, ft, fb⟩ := by rw [frs_append]; simp [frs]
        have hst : (st.setU 1 (putU ul (fl.take (k + 1)))) = st.setU 1 (uk ++ [⟨fk, fn, ft, fb⟩]) := by rw [HTK.out, putU_snoc, ← HUK.out, if_pos hfull]
        have hln : (uk ++ [(⟨fk, fn, ft, fb⟩ : Fr)]).length = uk.length + 1 := by simp
        have hres := LinkAt.app (st' := st.setU 1 (uk ++ [⟨fk, fn, ft, fb⟩])) (j := 3) (ci := 7) (v := .slice A1 (uk.length + 1) c1) HLA3.out (by omega)
          (fun i hi hne => by
            have h6 : i = 0 ∨ i = 1 ∨ i = 2 ∨ i = 3 ∨ i = 4 ∨ i = 5 := by omega
            rcases h6 with rfl | rfl | rfl | rfl | rfl | rfl <;> first | exact absurd rfl hne | simp [rowLn, rowXs, Lk.setU, upd])
          (by simpa [rowTy, rowSz, rowLn, rowXs, Lk.setU, upd, hfr] using hown1) (by simpa [rowLn, Lk.setU, upd] using hg1) (by simpa [rowLn, Lk.setU, upd] using hat1) (by simp [lkCells, Lk.setU, upd])
        have HRES := Lib.hid hres
        have HST := Lib.hid hst
        clear hres hst hfr hln hown1 hg1 hat1 x0 x1 x2 x3 e0 e1 e2 e3 hxg q0 z0 hlb
        go_wp2
        exact ⟨⟨k + 1, _, _, by omega, by push_cast; rfl, by rw [HST.out]; exact HRES.out.1, HKE3.out.trans HRES.out.2⟩, by simp only [intOf]; omega⟩
      · have i5 : ¬ (uk.length : Int) < 4096 := by omega
        go_wp2
        refine ⟨⟨k + 1, R1, C1, by omega, by push_cast; rfl, ?_, HKE3.out⟩, by simp only [intOf]; omega⟩
        rw [HTK.out, putU_snoc, ← HUK.out, if_neg hfull]
        exact HLA3.out
    · have i3 : ¬ ((k : Int) < (n : Int)) := by omega
      have hkn : fl.take k = fl := List.take_of_length_le (by have := HFL.out; omega)
      rw [hkn] at HLA
      go_wp2
      refine bodyPost_end (results_none rfl _ _ _) rfl ?_
      exact ⟨rfl, R1, C1, HLA.out, HKE.out⟩

end Go.Proofs.Ytnbndhmdfheikaa.D

/- Walks of the document's Send and Tick, at each end. By gen_d.py. -/
namespace Go.Proofs.Ytnbndhmdfheikaa.D
open Go.RowKit

/-- An end is another, its row new. -/
theorem LinkAt.end0 {L lb : Nat} {st : Lk} {R : Nat → Option Addr} {C : Nat → Nat} {W V : World} {s' : Sd} {A' : Option Addr} {c' : Nat} (h : LinkAt L lb st R C W) (hLW : L ≤ W.heap.size) (hb : Below W.heap.size W V)
    (hown : V.ownsRow W.heap.size 9 1 (.slice A' s'.sent.length c') s'.sent.length (s'.sent.map Value.string)) :
    LinkAt L lb (st.setE 0 s') (upd R 0 A') (upd C 0 c') (((V.setCell ⟨lb, 0, none⟩ (.slice A' s'.sent.length c')).setCell ⟨lb, 1, none⟩ (.int .i64 s'.taken)).setCell ⟨lb, 2, none⟩ (.int .i64 s'.known)) ∧
    Kept lb R (upd R 0 A') W (((V.setCell ⟨lb, 0, none⟩ (.slice A' s'.sent.length c')).setCell ⟨lb, 1, none⟩ (.int .i64 s'.taken)).setCell ⟨lb, 2, none⟩ (.int .i64 s'.known)) := by
  have hbk : Bk V lb 52 (lkCells st R C) := h.bk.below hb h.bk.lt
  have hfar : ∀ b, b ≠ lb → (((V.setCell ⟨lb, 0, none⟩ (.slice A' s'.sent.length c')).setCell ⟨lb, 1, none⟩ (.int .i64 s'.taken)).setCell ⟨lb, 2, none⟩ (.int .i64 s'.known)).heap[b]? = V.heap[b]? := fun b hne =>
    (Below.heap_setCell _ ⟨lb, 2, none⟩ _ b hne).trans ((Below.heap_setCell _ ⟨lb, 1, none⟩ _ b hne).trans (Below.heap_setCell _ ⟨lb, 0, none⟩ _ b hne))
  refine h.row (by omega) (fun i hi hne => by
    have h6 : i = 0 ∨ i = 1 ∨ i = 2 ∨ i = 3 ∨ i = 4 ∨ i = 5 := by omega
    rcases h6 with rfl | rfl | rfl | rfl | rfl | rfl <;> first | exact absurd rfl hne | simp [rowLn, rowXs, Lk.setE, upd]) ?_ ?_ (fun b hb' hlb _ => (hfar b hlb).trans (hb.block b hb')) (fun p hp => ?_) hb.os hb.tape hb.output (by simpa [World.setCell] using hb.size)
  · have h3 := ((hbk.set 0 (.slice A' s'.sent.length c')).set 1 (.int .i64 s'.taken)).set 2 (.int .i64 s'.known)
    have e : (((lkCells st R C).setIfInBounds 0 (.slice A' s'.sent.length c')).setIfInBounds 1 (.int .i64 s'.taken)).setIfInBounds 2 (.int .i64 s'.known) = lkCells (st.setE 0 s') (upd R 0 A') (upd C 0 c') := by simp [lkCells, Lk.setE, upd]
    rwa [e] at h3
  · have ho := own_mono hown hLW
    refine own_keep (by simpa [rowTy, rowSz, rowLn, rowXs, Lk.setE, upd] using ho) fun p hp => hfar p.block ?_
    have := (own_lt hown p hp).1
    have := h.bk.lt
    omega
  · exact .inr (own_lt hown p hp).1

/-- An end is another, its row new. -/
theorem LinkAt.end1 {L lb : Nat} {st : Lk} {R : Nat → Option Addr} {C : Nat → Nat} {W V : World} {s' : Sd} {A' : Option Addr} {c' : Nat} (h : LinkAt L lb st R C W) (hLW : L ≤ W.heap.size) (hb : Below W.heap.size W V)
    (hown : V.ownsRow W.heap.size 9 1 (.slice A' s'.sent.length c') s'.sent.length (s'.sent.map Value.string)) :
    LinkAt L lb (st.setE 1 s') (upd R 1 A') (upd C 1 c') (((V.setCell ⟨lb, 3, none⟩ (.slice A' s'.sent.length c')).setCell ⟨lb, 4, none⟩ (.int .i64 s'.taken)).setCell ⟨lb, 5, none⟩ (.int .i64 s'.known)) ∧
    Kept lb R (upd R 1 A') W (((V.setCell ⟨lb, 3, none⟩ (.slice A' s'.sent.length c')).setCell ⟨lb, 4, none⟩ (.int .i64 s'.taken)).setCell ⟨lb, 5, none⟩ (.int .i64 s'.known)) := by
  have hbk : Bk V lb 52 (lkCells st R C) := h.bk.below hb h.bk.lt
  have hfar : ∀ b, b ≠ lb → (((V.setCell ⟨lb, 3, none⟩ (.slice A' s'.sent.length c')).setCell ⟨lb, 4, none⟩ (.int .i64 s'.taken)).setCell ⟨lb, 5, none⟩ (.int .i64 s'.known)).heap[b]? = V.heap[b]? := fun b hne =>
    (Below.heap_setCell _ ⟨lb, 5, none⟩ _ b hne).trans ((Below.heap_setCell _ ⟨lb, 4, none⟩ _ b hne).trans (Below.heap_setCell _ ⟨lb, 3, none⟩ _ b hne))
  refine h.row (by omega) (fun i hi hne => by
    have h6 : i = 0 ∨ i = 1 ∨ i = 2 ∨ i = 3 ∨ i = 4 ∨ i = 5 := by omega
    rcases h6 with rfl | rfl | rfl | rfl | rfl | rfl <;> first | exact absurd rfl hne | simp [rowLn, rowXs, Lk.setE, upd]) ?_ ?_ (fun b hb' hlb _ => (hfar b hlb).trans (hb.block b hb')) (fun p hp => ?_) hb.os hb.tape hb.output (by simpa [World.setCell] using hb.size)
  · have h3 := ((hbk.set 3 (.slice A' s'.sent.length c')).set 4 (.int .i64 s'.taken)).set 5 (.int .i64 s'.known)
    have e : (((lkCells st R C).setIfInBounds 3 (.slice A' s'.sent.length c')).setIfInBounds 4 (.int .i64 s'.taken)).setIfInBounds 5 (.int .i64 s'.known) = lkCells (st.setE 1 s') (upd R 1 A') (upd C 1 c') := by simp [lkCells, Lk.setE, upd]
    rwa [e] at h3
  · have ho := own_mono hown hLW
    refine own_keep (by simpa [rowTy, rowSz, rowLn, rowXs, Lk.setE, upd] using ho) fun p hp => hfar p.block ?_
    have := (own_lt hown p hp).1
    have := h.bk.lt
    omega
  · exact .inr (own_lt hown p hp).1

set_option maxHeartbeats 8000000 in
set_option maxRecDepth 100000 in
theorem send_0 (L lb : Nat) (st : Lk) (R : Nat → Option Addr) (C : Nat → Nat) (W : World) (m : ByteArray) (hl : LinkAt L lb st R C W) (hu : (st.u 1).length ≤ 4096) (hLW : L ≤ W.heap.size) (hs : (st.e 0).sent.length ≤ maxLen) :
    Calls Try.prog 32 #[.pointer (some ⟨lb, 0, none⟩), .int .i64 0, .string m] W fun e W' => e = .returned (.int .i64 (sendK st 0 m).2) ∧ LOut L lb R W (sendK st 0 m).1 W' := by
  have HL0 := Lib.hid hl
  have hown : W.ownsRow L 9 1 (.slice (R 0) (st.e 0).sent.length (C 0)) (st.e 0).sent.length ((st.e 0).sent.map Value.string) := by simpa [rowTy, rowSz, rowLn, rowXs] using hl.own 0 (by omega)
  have hsend := rsend_any (R 0) (st.e 0).sent.length (C 0) (st.e 0) m W hs (Rd.of_own hown)
  obtain ⟨rr, hrr⟩ : ∃ rr, rr = sendS (st.e 0) m := ⟨_, rfl⟩
  rw [← hrr] at hsend
  have HSK : Hid (sendK st 0 m = if rr.e = 0 then ((st.setE 0 rr.s).setU 1 (putU (st.u 1) [rr.f]), 0) else (st, rr.e)) := by rw [hrr]; rfl
  obtain ⟨rs, ⟨fk, fn, ft, fb⟩, er⟩ := rr
  dsimp only at HSK
  unfold sideVal at hsend
  have HSEND := Lib.hid hsend
  have c0 : W.cell? ⟨lb, 0, none⟩ = some (.slice (R 0) (st.e 0).sent.length (C 0)) := by rw [hl.bk.cell]; simp [lkCells]
  have c1 : W.cell? ⟨lb, 1, none⟩ = some (.int .i64 (st.e 0).taken) := by rw [hl.bk.cell]; simp [lkCells]
  have c2 : W.cell? ⟨lb, 2, none⟩ = some (.int .i64 (st.e 0).known) := by rw [hl.bk.cell]; simp [lkCells]
  have hlb := hl.bk.lt
  clear hl hown hsend hrr
  go_enter Try.func32, Try.ntmps32
  go_wp2_with fail
  refine HSEND.out.mono ?_
  rintro e w1 ⟨A1, d1, rfl, hd1, hm1, ho1, hb1⟩
  dsimp only at hd1 ho1
  have HO1 := Lib.hid ho1
  have HB1 := Lib.hid hb1
  clear hd1 hm1 ho1 hb1 c0 c1 c2
  obtain ⟨V, hV⟩ : ∃ V, V = (w1.alloc (.cells #[.slice A1 rs.sent.length d1, .int .i64 rs.taken, .int .i64 rs.known] 33)).alloc (.cells #[.int .i64 fk, .int .i64 fn, .int .i64 ft, .string fb] 44) := ⟨_, rfl⟩
  obtain ⟨bs, hbs⟩ : ∃ bs, bs = w1.heap.size := ⟨_, rfl⟩
  have HBS : Hid (Bk V bs 33 #[.slice A1 rs.sent.length d1, .int .i64 rs.taken, .int .i64 rs.known]) := by rw [hV, hbs]; exact (Bk.new w1 _ _).alloc _
  have HBF : Hid (Bk V (bs + 1) 44 #[.int .i64 fk, .int .i64 fn, .int .i64 ft, .string fb]) := by
    rw [hV, hbs]
    have := Bk.new (w1.alloc (.cells #[.slice A1 rs.sent.length d1, .int .i64 rs.taken, .int .i64 rs.known] 33)) 44 #[.int .i64 fk, .int .i64 fn, .int .i64 ft, .string fb]
    rw [show (w1.alloc (.cells #[.slice A1 rs.sent.length d1, .int .i64 rs.taken, .int .i64 rs.known] 33)).heap.size = w1.heap.size + 1 by simp] at this
    exact Lib.hid this
  have HBV : Hid (Below W.heap.size W V) := by rw [hV]; exact (HB1.out.alloc HB1.out.size _).alloc (by have := HB1.out.size; simp; omega) _
  have HOV : Hid (V.ownsRow W.heap.size 9 1 (.slice A1 rs.sent.length d1) rs.sent.length (rs.sent.map Value.string)) := by rw [hV]; exact (HO1.out.alloc _).alloc _
  have hbsW : W.heap.size ≤ bs := by rw [hbs]; exact HB1.out.size
  unfold sideVal Fr.val
  go_upto_region 4 with (fail)
  have hbs1 : w1.heap.size + 1 = bs + 1 := by rw [hbs]
  rw [← hV, hbs1, ← hbs]
  clear hV hbs hbs1 HO1 HB1
  by_cases her : er = 0
  case neg =>
    have hne : (er != 0) = true := by simpa using her
    have hne2 : (er == 0) = false := by simpa using her
    have hsk := HSK.out
    rw [if_neg her] at hsk
    have HSK1 := Lib.hid hsk
    clear hsk her
    go_wp2
    go_ret
    rw [HSK1.out]
    exact ⟨rfl, R, C, HL0.out.over HBV.out, Kept.of_below _ _ HBV.out⟩
  subst her
  have hsk := HSK.out
  rw [if_pos rfl] at hsk
  have HSK1 := Lib.hid hsk
  clear hsk HSK
  have HBL := Lib.hid (HL0.out.bk.below HBV.out HL0.out.bk.lt)
  obtain ⟨x0, x1, x2, z0, z1, z2, hxg⟩ := HBS.out.three
  have y0 : V.cell? ⟨lb, 0, none⟩ = some (.slice (R 0) (st.e 0).sent.length (C 0)) := by rw [HBL.out.cell]; simp [lkCells]
  have y1 : V.cell? ⟨lb, 1, none⟩ = some (.int .i64 (st.e 0).taken) := by rw [HBL.out.cell]; simp [lkCells]
  have y2 : V.cell? ⟨lb, 2, none⟩ = some (.int .i64 (st.e 0).known) := by rw [HBL.out.cell]; simp [lkCells]
  have u0 := HBL.out.frozen 0
  have u1 := HBL.out.frozen 1
  have u2 := HBL.out.frozen 2
  have hlv := HBL.out.lt
  have HS0 : Hid ((fun V => V.cell? ⟨bs, 0, none⟩ = some (.slice A1 rs.sent.length d1) ∧ V.cell? ⟨bs, 1, none⟩ = some (.int .i64 rs.taken) ∧ V.cell? ⟨bs, 2, none⟩ = some (.int .i64 rs.known)) V.drew) := ⟨x0, x1, x2⟩
  go_upto_region 5 with (fail)
  refine region_anyL (fun V => V.cell? ⟨bs, 0, none⟩ = some (.slice A1 rs.sent.length d1) ∧ V.cell? ⟨bs, 1, none⟩ = some (.int .i64 rs.taken) ∧ V.cell? ⟨bs, 2, none⟩ = some (.int .i64 rs.known)) 6 (by kernel_rfl) ?_
  refine anyL_take (i := 0) (oi := { dst := some 30, op := Op.move (Operand.tmp 0), type := 47, pos := "ref.go:32", after := #[], guard := none }) (v := ?_) rfl (by kernel_rfl) (by kernel_rfl) (by kernel_rfl) (by kernel_rfl) (fun _ _ _ h => h) (Or.inl ⟨by rfl, ?_⟩) (HS0.out) ?_
  rotate_left
  · intro w hSw
    try dsimp only at hSw
    obtain ⟨q0, q1, q2⟩ := hSw
    first | (go_simp <;> fail) | (go_simp; with_reducible rfl)
  try simp only [Act.put, List.setIfInBounds_toArray, List.set_cons_zero, List.set_cons_succ]
  refine anyL_take (i := 1) (oi := { dst := some 31, op := Op.move (Operand.tmp 1), type := 3, pos := "ref.go:32", after := #[], guard := none }) (v := ?_) rfl (by kernel_rfl) (by kernel_rfl) (by kernel_rfl) (by kernel_rfl) (fun _ _ _ h => h) (Or.inl ⟨by rfl, ?_⟩) (HS0.out) ?_
  rotate_left
  · intro w hSw
    try dsimp only at hSw
    obtain ⟨q0, q1, q2⟩ := hSw
    first | (go_simp <;> fail) | (go_simp; with_reducible rfl)
  try simp only [Act.put, List.setIfInBounds_toArray, List.set_cons_zero, List.set_cons_succ]
  refine anyL_take (i := 2) (oi := { dst := some 32, op := Op.load 33 (Operand.tmp 7), type := 33, pos := "ref.go:32", after := #[], guard := none }) (v := ?_) rfl (by kernel_rfl) (by kernel_rfl) (by kernel_rfl) (by kernel_rfl) (fun _ _ _ h => h) (Or.inl ⟨by rfl, ?_⟩) (HS0.out) ?_
  rotate_left
  · intro w hSw
    try dsimp only at hSw
    obtain ⟨q0, q1, q2⟩ := hSw
    first | (go_simp <;> fail) | (go_simp; with_reducible rfl)
  try simp only [Act.put, List.setIfInBounds_toArray, List.set_cons_zero, List.set_cons_succ]
  refine anyL_takeC [4, 5] (i := 3) (oi := { dst := some 33, op := Op.nilCheck (Operand.tmp 30), type := 0, pos := "ref.go:32", after := #[{ on := 0, ground := Ground.data }], guard := none }) (v := ?_) rfl (by kernel_rfl) (by kernel_rfl) (by kernel_rfl) (by kernel_rfl) (by kernel_rfl) (fun _ _ _ h => h) (Or.inl ⟨by rfl, ?_⟩) (HS0.out) ?_
  rotate_left
  · intro w hSw
    try dsimp only at hSw
    obtain ⟨q0, q1, q2⟩ := hSw
    first | (go_simp <;> fail) | (go_simp; with_reducible rfl)
  try simp only [Act.put, List.setIfInBounds_toArray, List.set_cons_zero, List.set_cons_succ]
  refine anyL_takeC [5] (i := 4) (oi := { dst := some 34, op := Op.fieldAddr 52 (Operand.tmp 33) 0, type := 0, pos := "ref.go:32", after := #[{ on := 3, ground := Ground.data }], guard := none }) (v := ?_) rfl (by kernel_rfl) (by kernel_rfl) (by kernel_rfl) (by kernel_rfl) (by kernel_rfl) (fun _ _ _ h => h) (Or.inl ⟨by rfl, ?_⟩) (HS0.out) ?_
  rotate_left
  · intro w hSw
    try dsimp only at hSw
    obtain ⟨q0, q1, q2⟩ := hSw
    first | (go_simp <;> fail) | (go_simp; with_reducible rfl)
  try simp only [Act.put, List.setIfInBounds_toArray, List.set_cons_zero, List.set_cons_succ]
  refine anyL_take (i := 5) (oi := { dst := some 35, op := Op.indexAddr 48 (Operand.tmp 34) (Operand.tmp 31), type := 0, pos := "ref.go:32", after := #[{ on := 4, ground := Ground.data }, { on := 1, ground := Ground.data }, { on := 0, ground := Ground.phase }, { on := 1, ground := Ground.phase }, { on := 2, ground := Ground.phase }], guard := none }) (v := ?_) rfl (by kernel_rfl) (by kernel_rfl) (by kernel_rfl) (by kernel_rfl) (fun _ _ _ h => h) (Or.inl ⟨by rfl, ?_⟩) (HS0.out) ?_
  rotate_left
  · intro w hSw
    try dsimp only at hSw
    obtain ⟨q0, q1, q2⟩ := hSw
    first | (go_simp <;> fail) | (go_simp; with_reducible rfl)
  try simp only [Act.put, List.setIfInBounds_toArray, List.set_cons_zero, List.set_cons_succ]
  refine anyL_one (i := 6) (o := { dst := none, op := Op.store 33 (Operand.tmp 35) (Operand.tmp 32), type := 0, pos := "ref.go:32", after := #[{ on := 5, ground := Ground.data }, { on := 2, ground := Ground.data }, { on := 0, ground := Ground.phase }, { on := 1, ground := Ground.phase }, { on := 2, ground := Ground.phase }], guard := none }) (by kernel_rfl) rfl (fun K hK => ?_)
  go_simp
  refine hK.out _ _ (fun h0 => absurd rfl h0) ?_
  clear hK K
  try simp only [Act.put, List.setIfInBounds_toArray, List.set_cons_zero, List.set_cons_succ]
  refine anyL_done (by kernel_rfl) ?_ _
  obtain ⟨V2, hV2⟩ : ∃ V2, V2 = (((V.setCell ⟨lb, 0, none⟩ (.slice A1 rs.sent.length d1)).setCell ⟨lb, 1, none⟩ (.int .i64 rs.taken)).setCell ⟨lb, 2, none⟩ (.int .i64 rs.known)).drew := ⟨_, rfl⟩
  have hres0 := LinkAt.end0 (s' := rs) (V := V) HL0.out hLW HBV.out HOV.out
  have hres := And.intro hres0.1.drew (hres0.2.trans (Kept.of_below _ _ ((Below.refl _ _).drew)))
  rw [← hV2] at hres
  clear hres0
  have HRES := Lib.hid hres
  have hbflb : bs + 1 ≠ lb := by have := HL0.out.bk.lt; omega
  have HBF2 : Hid (Bk V2 (bs + 1) 44 #[.int .i64 fk, .int .i64 fn, .int .i64 ft, .string fb]) := by rw [hV2]; exact (((HBF.out.far (p := ⟨lb, 0, none⟩) hbflb _).far (p := ⟨lb, 1, none⟩) hbflb _).far (p := ⟨lb, 2, none⟩) hbflb _).drew
  rw [← hV2]
  clear hV2 hres x0 x1 x2 z0 z1 z2 hxg y0 y1 y2 u0 u1 u2 hlv hbflb
  obtain ⟨x0, x1, x2, x3, z0, z1, z2, z3, hxg⟩ := HBF2.out.four
  obtain ⟨V3, hV3⟩ : ∃ V3, V3 = V2.alloc (.cells #[.int .i64 fk, .int .i64 fn, .int .i64 ft, .string fb] 44) := ⟨_, rfl⟩
  obtain ⟨bl, hbl⟩ : ∃ bl, bl = V2.heap.size := ⟨_, rfl⟩
  have hB3 : Bk V3 bl 44 #[.int .i64 fk, .int .i64 fn, .int .i64 ft, .string fb] := by rw [hV3, hbl]; exact Bk.new _ _ _
  have hLA3 : LinkAt L lb (st.setE 0 rs) (upd R 0 A1) (upd C 0 d1) V3 := by rw [hV3]; exact HRES.out.1.alloc _
  have HKE3 : Hid (Kept lb R (upd R 0 A1) W V3) := by rw [hV3]; exact HRES.out.2.trans (Kept.of_below _ _ ((Below.refl _ V2).alloc (Nat.le_refl _) _))
  have hput := put_1 L lb (st.setE 0 rs) (upd R 0 A1) (upd C 0 d1) V3 (some ⟨bl, 0, none⟩) 1 1 [⟨fk, fn, ft, fb⟩] hLA3 hu (Nat.le_trans hLW HKE3.out.size) (by unfold maxLen; omega) ⟨rfl, fun _ => ⟨_, rfl, hB3.lt, World.news_of_block hB3⟩⟩
    (fun p hp hi => by injection hp with hp; subst hp; have h1 := (HRES.out.1.blocks _ hi).2; dsimp only at h1; omega)
  have HPUT := Lib.hid hput
  clear hput hB3 hLA3
  go_wp2_with fail
  rw [← hV3, ← hbl]
  clear hV3 hbl
  refine HPUT.out.mono ?_
  rintro e w4 ⟨rfl, R4, C4, hla4, hke4⟩
  have HLA4 := Lib.hid hla4
  have HKE4 := Lib.hid hke4
  clear hla4 hke4 x0 x1 x2 x3 z0 z1 z2 z3 hxg
  go_wp2
  go_ret
  rw [HSK1.out]
  exact ⟨rfl, R4, C4, HLA4.out, HKE3.out.trans HKE4.out⟩

set_option maxHeartbeats 8000000 in
set_option maxRecDepth 100000 in
theorem send_1 (L lb : Nat) (st : Lk) (R : Nat → Option Addr) (C : Nat → Nat) (W : World) (m : ByteArray) (hl : LinkAt L lb st R C W) (hu : (st.u 0).length ≤ 4096) (hLW : L ≤ W.heap.size) (hs : (st.e 1).sent.length ≤ maxLen) :
    Calls Try.prog 32 #[.pointer (some ⟨lb, 0, none⟩), .int .i64 1, .string m] W fun e W' => e = .returned (.int .i64 (sendK st 1 m).2) ∧ LOut L lb R W (sendK st 1 m).1 W' := by
  have HL0 := Lib.hid hl
  have hown : W.ownsRow L 9 1 (.slice (R 1) (st.e 1).sent.length (C 1)) (st.e 1).sent.length ((st.e 1).sent.map Value.string) := by simpa [rowTy, rowSz, rowLn, rowXs] using hl.own 1 (by omega)
  have hsend := rsend_any (R 1) (st.e 1).sent.length (C 1) (st.e 1) m W hs (Rd.of_own hown)
  obtain ⟨rr, hrr⟩ : ∃ rr, rr = sendS (st.e 1) m := ⟨_, rfl⟩
  rw [← hrr] at hsend
  have HSK : Hid (sendK st 1 m = if rr.e = 0 then ((st.setE 1 rr.s).setU 0 (putU (st.u 0) [rr.f]), 0) else (st, rr.e)) := by rw [hrr]; rfl
  obtain ⟨rs, ⟨fk, fn, ft, fb⟩, er⟩ := rr
  dsimp only at HSK
  unfold sideVal at hsend
  have HSEND := Lib.hid hsend
  have c0 : W.cell? ⟨lb, 3, none⟩ = some (.slice (R 1) (st.e 1).sent.length (C 1)) := by rw [hl.bk.cell]; simp [lkCells]
  have c1 : W.cell? ⟨lb, 4, none⟩ = some (.int .i64 (st.e 1).taken) := by rw [hl.bk.cell]; simp [lkCells]
  have c2 : W.cell? ⟨lb, 5, none⟩ = some (.int .i64 (st.e 1).known) := by rw [hl.bk.cell]; simp [lkCells]
  have hlb := hl.bk.lt
  clear hl hown hsend hrr
  go_enter Try.func32, Try.ntmps32
  go_wp2_with fail
  refine HSEND.out.mono ?_
  rintro e w1 ⟨A1, d1, rfl, hd1, hm1, ho1, hb1⟩
  dsimp only at hd1 ho1
  have HO1 := Lib.hid ho1
  have HB1 := Lib.hid hb1
  clear hd1 hm1 ho1 hb1 c0 c1 c2
  obtain ⟨V, hV⟩ : ∃ V, V = (w1.alloc (.cells #[.slice A1 rs.sent.length d1, .int .i64 rs.taken, .int .i64 rs.known] 33)).alloc (.cells #[.int .i64 fk, .int .i64 fn, .int .i64 ft, .string fb] 44) := ⟨_, rfl⟩
  obtain ⟨bs, hbs⟩ : ∃ bs, bs = w1.heap.size := ⟨_, rfl⟩
  have HBS : Hid (Bk V bs 33 #[.slice A1 rs.sent.length d1, .int .i64 rs.taken, .int .i64 rs.known]) := by rw [hV, hbs]; exact (Bk.new w1 _ _).alloc _
  have HBF : Hid (Bk V (bs + 1) 44 #[.int .i64 fk, .int .i64 fn, .int .i64 ft, .string fb]) := by
    rw [hV, hbs]
    have := Bk.new (w1.alloc (.cells #[.slice A1 rs.sent.length d1, .int .i64 rs.taken, .int .i64 rs.known] 33)) 44 #[.int .i64 fk, .int .i64 fn, .int .i64 ft, .string fb]
    rw [show (w1.alloc (.cells #[.slice A1 rs.sent.length d1, .int .i64 rs.taken, .int .i64 rs.known] 33)).heap.size = w1.heap.size + 1 by simp] at this
    exact Lib.hid this
  have HBV : Hid (Below W.heap.size W V) := by rw [hV]; exact (HB1.out.alloc HB1.out.size _).alloc (by have := HB1.out.size; simp; omega) _
  have HOV : Hid (V.ownsRow W.heap.size 9 1 (.slice A1 rs.sent.length d1) rs.sent.length (rs.sent.map Value.string)) := by rw [hV]; exact (HO1.out.alloc _).alloc _
  have hbsW : W.heap.size ≤ bs := by rw [hbs]; exact HB1.out.size
  unfold sideVal Fr.val
  go_upto_region 4 with (fail)
  have hbs1 : w1.heap.size + 1 = bs + 1 := by rw [hbs]
  rw [← hV, hbs1, ← hbs]
  clear hV hbs hbs1 HO1 HB1
  by_cases her : er = 0
  case neg =>
    have hne : (er != 0) = true := by simpa using her
    have hne2 : (er == 0) = false := by simpa using her
    have hsk := HSK.out
    rw [if_neg her] at hsk
    have HSK1 := Lib.hid hsk
    clear hsk her
    go_wp2
    go_ret
    rw [HSK1.out]
    exact ⟨rfl, R, C, HL0.out.over HBV.out, Kept.of_below _ _ HBV.out⟩
  subst her
  have hsk := HSK.out
  rw [if_pos rfl] at hsk
  have HSK1 := Lib.hid hsk
  clear hsk HSK
  have HBL := Lib.hid (HL0.out.bk.below HBV.out HL0.out.bk.lt)
  obtain ⟨x0, x1, x2, z0, z1, z2, hxg⟩ := HBS.out.three
  have y0 : V.cell? ⟨lb, 3, none⟩ = some (.slice (R 1) (st.e 1).sent.length (C 1)) := by rw [HBL.out.cell]; simp [lkCells]
  have y1 : V.cell? ⟨lb, 4, none⟩ = some (.int .i64 (st.e 1).taken) := by rw [HBL.out.cell]; simp [lkCells]
  have y2 : V.cell? ⟨lb, 5, none⟩ = some (.int .i64 (st.e 1).known) := by rw [HBL.out.cell]; simp [lkCells]
  have u0 := HBL.out.frozen 3
  have u1 := HBL.out.frozen 4
  have u2 := HBL.out.frozen 5
  have hlv := HBL.out.lt
  have HS0 : Hid ((fun V => V.cell? ⟨bs, 0, none⟩ = some (.slice A1 rs.sent.length d1) ∧ V.cell? ⟨bs, 1, none⟩ = some (.int .i64 rs.taken) ∧ V.cell? ⟨bs, 2, none⟩ = some (.int .i64 rs.known)) V.drew) := ⟨x0, x1, x2⟩
  go_upto_region 5 with (fail)
  refine region_anyL (fun V => V.cell? ⟨bs, 0, none⟩ = some (.slice A1 rs.sent.length d1) ∧ V.cell? ⟨bs, 1, none⟩ = some (.int .i64 rs.taken) ∧ V.cell? ⟨bs, 2, none⟩ = some (.int .i64 rs.known)) 6 (by kernel_rfl) ?_
  refine anyL_take (i := 0) (oi := { dst := some 30, op := Op.move (Operand.tmp 0), type := 47, pos := "ref.go:32", after := #[], guard := none }) (v := ?_) rfl (by kernel_rfl) (by kernel_rfl) (by kernel_rfl) (by kernel_rfl) (fun _ _ _ h => h) (Or.inl ⟨by rfl, ?_⟩) (HS0.out) ?_
  rotate_left
  · intro w hSw
    try dsimp only at hSw
    obtain ⟨q0, q1, q2⟩ := hSw
    first | (go_simp <;> fail) | (go_simp; with_reducible rfl)
  try simp only [Act.put, List.setIfInBounds_toArray, List.set_cons_zero, List.set_cons_succ]
  refine anyL_take (i := 1) (oi := { dst := some 31, op := Op.move (Operand.tmp 1), type := 3, pos := "ref.go:32", after := #[], guard := none }) (v := ?_) rfl (by kernel_rfl) (by kernel_rfl) (by kernel_rfl) (by kernel_rfl) (fun _ _ _ h => h) (Or.inl ⟨by rfl, ?_⟩) (HS0.out) ?_
  rotate_left
  · intro w hSw
    try dsimp only at hSw
    obtain ⟨q0, q1, q2⟩ := hSw
    first | (go_simp <;> fail) | (go_simp; with_reducible rfl)
  try simp only [Act.put, List.setIfInBounds_toArray, List.set_cons_zero, List.set_cons_succ]
  refine anyL_take (i := 2) (oi := { dst := some 32, op := Op.load 33 (Operand.tmp 7), type := 33, pos := "ref.go:32", after := #[], guard := none }) (v := ?_) rfl (by kernel_rfl) (by kernel_rfl) (by kernel_rfl) (by kernel_rfl) (fun _ _ _ h => h) (Or.inl ⟨by rfl, ?_⟩) (HS0.out) ?_
  rotate_left
  · intro w hSw
    try dsimp only at hSw
    obtain ⟨q0, q1, q2⟩ := hSw
    first | (go_simp <;> fail) | (go_simp; with_reducible rfl)
  try simp only [Act.put, List.setIfInBounds_toArray, List.set_cons_zero, List.set_cons_succ]
  refine anyL_takeC [4, 5] (i := 3) (oi := { dst := some 33, op := Op.nilCheck (Operand.tmp 30), type := 0, pos := "ref.go:32", after := #[{ on := 0, ground := Ground.data }], guard := none }) (v := ?_) rfl (by kernel_rfl) (by kernel_rfl) (by kernel_rfl) (by kernel_rfl) (by kernel_rfl) (fun _ _ _ h => h) (Or.inl ⟨by rfl, ?_⟩) (HS0.out) ?_
  rotate_left
  · intro w hSw
    try dsimp only at hSw
    obtain ⟨q0, q1, q2⟩ := hSw
    first | (go_simp <;> fail) | (go_simp; with_reducible rfl)
  try simp only [Act.put, List.setIfInBounds_toArray, List.set_cons_zero, List.set_cons_succ]
  refine anyL_takeC [5] (i := 4) (oi := { dst := some 34, op := Op.fieldAddr 52 (Operand.tmp 33) 0, type := 0, pos := "ref.go:32", after := #[{ on := 3, ground := Ground.data }], guard := none }) (v := ?_) rfl (by kernel_rfl) (by kernel_rfl) (by kernel_rfl) (by kernel_rfl) (by kernel_rfl) (fun _ _ _ h => h) (Or.inl ⟨by rfl, ?_⟩) (HS0.out) ?_
  rotate_left
  · intro w hSw
    try dsimp only at hSw
    obtain ⟨q0, q1, q2⟩ := hSw
    first | (go_simp <;> fail) | (go_simp; with_reducible rfl)
  try simp only [Act.put, List.setIfInBounds_toArray, List.set_cons_zero, List.set_cons_succ]
  refine anyL_take (i := 5) (oi := { dst := some 35, op := Op.indexAddr 48 (Operand.tmp 34) (Operand.tmp 31), type := 0, pos := "ref.go:32", after := #[{ on := 4, ground := Ground.data }, { on := 1, ground := Ground.data }, { on := 0, ground := Ground.phase }, { on := 1, ground := Ground.phase }, { on := 2, ground := Ground.phase }], guard := none }) (v := ?_) rfl (by kernel_rfl) (by kernel_rfl) (by kernel_rfl) (by kernel_rfl) (fun _ _ _ h => h) (Or.inl ⟨by rfl, ?_⟩) (HS0.out) ?_
  rotate_left
  · intro w hSw
    try dsimp only at hSw
    obtain ⟨q0, q1, q2⟩ := hSw
    first | (go_simp <;> fail) | (go_simp; with_reducible rfl)
  try simp only [Act.put, List.setIfInBounds_toArray, List.set_cons_zero, List.set_cons_succ]
  refine anyL_one (i := 6) (o := { dst := none, op := Op.store 33 (Operand.tmp 35) (Operand.tmp 32), type := 0, pos := "ref.go:32", after := #[{ on := 5, ground := Ground.data }, { on := 2, ground := Ground.data }, { on := 0, ground := Ground.phase }, { on := 1, ground := Ground.phase }, { on := 2, ground := Ground.phase }], guard := none }) (by kernel_rfl) rfl (fun K hK => ?_)
  go_simp
  refine hK.out _ _ (fun h0 => absurd rfl h0) ?_
  clear hK K
  try simp only [Act.put, List.setIfInBounds_toArray, List.set_cons_zero, List.set_cons_succ]
  refine anyL_done (by kernel_rfl) ?_ _
  obtain ⟨V2, hV2⟩ : ∃ V2, V2 = (((V.setCell ⟨lb, 3, none⟩ (.slice A1 rs.sent.length d1)).setCell ⟨lb, 4, none⟩ (.int .i64 rs.taken)).setCell ⟨lb, 5, none⟩ (.int .i64 rs.known)).drew := ⟨_, rfl⟩
  have hres0 := LinkAt.end1 (s' := rs) (V := V) HL0.out hLW HBV.out HOV.out
  have hres := And.intro hres0.1.drew (hres0.2.trans (Kept.of_below _ _ ((Below.refl _ _).drew)))
  rw [← hV2] at hres
  clear hres0
  have HRES := Lib.hid hres
  have hbflb : bs + 1 ≠ lb := by have := HL0.out.bk.lt; omega
  have HBF2 : Hid (Bk V2 (bs + 1) 44 #[.int .i64 fk, .int .i64 fn, .int .i64 ft, .string fb]) := by rw [hV2]; exact (((HBF.out.far (p := ⟨lb, 3, none⟩) hbflb _).far (p := ⟨lb, 4, none⟩) hbflb _).far (p := ⟨lb, 5, none⟩) hbflb _).drew
  rw [← hV2]
  clear hV2 hres x0 x1 x2 z0 z1 z2 hxg y0 y1 y2 u0 u1 u2 hlv hbflb
  obtain ⟨x0, x1, x2, x3, z0, z1, z2, z3, hxg⟩ := HBF2.out.four
  obtain ⟨V3, hV3⟩ : ∃ V3, V3 = V2.alloc (.cells #[.int .i64 fk, .int .i64 fn, .int .i64 ft, .string fb] 44) := ⟨_, rfl⟩
  obtain ⟨bl, hbl⟩ : ∃ bl, bl = V2.heap.size := ⟨_, rfl⟩
  have hB3 : Bk V3 bl 44 #[.int .i64 fk, .int .i64 fn, .int .i64 ft, .string fb] := by rw [hV3, hbl]; exact Bk.new _ _ _
  have hLA3 : LinkAt L lb (st.setE 1 rs) (upd R 1 A1) (upd C 1 d1) V3 := by rw [hV3]; exact HRES.out.1.alloc _
  have HKE3 : Hid (Kept lb R (upd R 1 A1) W V3) := by rw [hV3]; exact HRES.out.2.trans (Kept.of_below _ _ ((Below.refl _ V2).alloc (Nat.le_refl _) _))
  have hput := put_0 L lb (st.setE 1 rs) (upd R 1 A1) (upd C 1 d1) V3 (some ⟨bl, 0, none⟩) 1 1 [⟨fk, fn, ft, fb⟩] hLA3 hu (Nat.le_trans hLW HKE3.out.size) (by unfold maxLen; omega) ⟨rfl, fun _ => ⟨_, rfl, hB3.lt, World.news_of_block hB3⟩⟩
    (fun p hp hi => by injection hp with hp; subst hp; have h1 := (HRES.out.1.blocks _ hi).2; dsimp only at h1; omega)
  have HPUT := Lib.hid hput
  clear hput hB3 hLA3
  go_wp2_with fail
  rw [← hV3, ← hbl]
  clear hV3 hbl
  refine HPUT.out.mono ?_
  rintro e w4 ⟨rfl, R4, C4, hla4, hke4⟩
  have HLA4 := Lib.hid hla4
  have HKE4 := Lib.hid hke4
  clear hla4 hke4 x0 x1 x2 x3 z0 z1 z2 z3 hxg
  go_wp2
  go_ret
  rw [HSK1.out]
  exact ⟨rfl, R4, C4, HLA4.out, HKE3.out.trans HKE4.out⟩

set_option maxHeartbeats 8000000 in
set_option maxRecDepth 100000 in
theorem tick_0 (L lb : Nat) (st : Lk) (R : Nat → Option Addr) (C : Nat → Nat) (W : World) (hl : LinkAt L lb st R C W) (hgood : goodB (st.e 0) = true) (hu : (st.u 1).length ≤ 4096) (hLW : L ≤ W.heap.size) :
    Calls Try.prog 33 #[.pointer (some ⟨lb, 0, none⟩), .int .i64 0] W fun e W' => e = .returned (.int .i64 (tickK st 0).2) ∧ LOut L lb R W (tickK st 0).1 W' := by
  have HL0 := Lib.hid hl
  have HSK : Hid (tickK st 0 = (st.setU 1 (putU (st.u 1) [tickF (st.e 0)]), 0)) := if_pos hgood
  obtain ⟨n, hn⟩ : ∃ n, n = (st.e 0).sent.length := ⟨_, rfl⟩
  obtain ⟨tk, htk⟩ : ∃ tk, tk = (st.e 0).taken := ⟨_, rfl⟩
  obtain ⟨kn, hkn⟩ : ∃ kn, kn = (st.e 0).known := ⟨_, rfl⟩
  have HF : Hid (tickF (st.e 0) = ⟨3, n, tk, noBytes⟩) := by rw [hn, htk]; rfl
  have c0 : W.cell? ⟨lb, 0, none⟩ = some (.slice (R 0) n (C 0)) := by rw [hl.bk.cell, hn]; simp [lkCells]
  have c1 : W.cell? ⟨lb, 1, none⟩ = some (.int .i64 tk) := by rw [hl.bk.cell, htk]; simp [lkCells]
  have c2 : W.cell? ⟨lb, 2, none⟩ = some (.int .i64 kn) := by rw [hl.bk.cell, hkn]; simp [lkCells]
  have hlb := hl.bk.lt
  obtain ⟨V, hV⟩ : ∃ V, V = W.alloc (.cells #[.slice (R 0) n (C 0), .int .i64 tk, .int .i64 kn] 33) := ⟨_, rfl⟩
  obtain ⟨bs, hbs⟩ : ∃ bs, bs = W.heap.size := ⟨_, rfl⟩
  have HBS : Hid (Bk V bs 33 #[.slice (R 0) n (C 0), .int .i64 tk, .int .i64 kn]) := by rw [hV, hbs]; exact Bk.new _ _ _
  have HBV : Hid (Below W.heap.size W V) := by rw [hV]; exact (Below.refl _ W).alloc (Nat.le_refl _) _
  clear hl hn htk hkn hgood
  go_enter Try.func33, Try.ntmps33
  go_upto_region 4 with (fail)
  rw [← hV, ← hbs]
  clear hV hbs c0 c1 c2 hlb
  obtain ⟨x0, x1, x2, z0, z1, z2, hxg⟩ := HBS.out.three
  obtain ⟨V3, hV3⟩ : ∃ V3, V3 = V.alloc (.cells #[.int .i64 3, .int .i64 n, .int .i64 tk, .string noBytes] 44) := ⟨_, rfl⟩
  obtain ⟨bl, hbl⟩ : ∃ bl, bl = V.heap.size := ⟨_, rfl⟩
  have hB3 : Bk V3 bl 44 #[.int .i64 3, .int .i64 n, .int .i64 tk, .string noBytes] := by rw [hV3, hbl]; exact Bk.new _ _ _
  have HBV3 : Hid (Below W.heap.size W V3) := by rw [hV3]; exact HBV.out.alloc HBV.out.size _
  have hLA3 : LinkAt L lb st R C V3 := HL0.out.over HBV3.out
  have HKE3 : Hid (Kept lb R R W V3) := Kept.of_below _ _ HBV3.out
  have hput := put_1 L lb st R C V3 (some ⟨bl, 0, none⟩) 1 1 [⟨3, n, tk, noBytes⟩] hLA3 hu (Nat.le_trans hLW HKE3.out.size) (by unfold maxLen; omega) ⟨rfl, fun _ => ⟨_, rfl, hB3.lt, World.news_of_block hB3⟩⟩
    (fun p hp hi => by injection hp with hp; subst hp; have h1 := (HL0.out.blocks _ hi).2; have := HBV.out.size; dsimp only at h1; omega)
  have HPUT := Lib.hid hput
  clear hput hB3 hLA3
  unfold noBytes at hV3
  go_wp2_with fail
  rw [← hV3, ← hbl]
  clear hV3 hbl
  refine HPUT.out.mono ?_
  rintro e w4 ⟨rfl, R4, C4, hla4, hke4⟩
  have HLA4 := Lib.hid hla4
  have HKE4 := Lib.hid hke4
  clear hla4 hke4 x0 x1 x2 z0 z1 z2 hxg
  go_wp2
  go_ret
  rw [HSK.out, HF.out]
  exact ⟨rfl, R4, C4, HLA4.out, HKE3.out.trans HKE4.out⟩

set_option maxHeartbeats 8000000 in
set_option maxRecDepth 100000 in
theorem tick_1 (L lb : Nat) (st : Lk) (R : Nat → Option Addr) (C : Nat → Nat) (W : World) (hl : LinkAt L lb st R C W) (hgood : goodB (st.e 1) = true) (hu : (st.u 0).length ≤ 4096) (hLW : L ≤ W.heap.size) :
    Calls Try.prog 33 #[.pointer (some ⟨lb, 0, none⟩), .int .i64 1] W fun e W' => e = .returned (.int .i64 (tickK st 1).2) ∧ LOut L lb R W (tickK st 1).1 W' := by
  have HL0 := Lib.hid hl
  have HSK : Hid (tickK st 1 = (st.setU 0 (putU (st.u 0) [tickF (st.e 1)]), 0)) := if_pos hgood
  obtain ⟨n, hn⟩ : ∃ n, n = (st.e 1).sent.length := ⟨_, rfl⟩
  obtain ⟨tk, htk⟩ : ∃ tk, tk = (st.e 1).taken := ⟨_, rfl⟩
  obtain ⟨kn, hkn⟩ : ∃ kn, kn = (st.e 1).known := ⟨_, rfl⟩
  have HF : Hid (tickF (st.e 1) = ⟨3, n, tk, noBytes⟩) := by rw [hn, htk]; rfl
  have c0 : W.cell? ⟨lb, 3, none⟩ = some (.slice (R 1) n (C 1)) := by rw [hl.bk.cell, hn]; simp [lkCells]
  have c1 : W.cell? ⟨lb, 4, none⟩ = some (.int .i64 tk) := by rw [hl.bk.cell, htk]; simp [lkCells]
  have c2 : W.cell? ⟨lb, 5, none⟩ = some (.int .i64 kn) := by rw [hl.bk.cell, hkn]; simp [lkCells]
  have hlb := hl.bk.lt
  obtain ⟨V, hV⟩ : ∃ V, V = W.alloc (.cells #[.slice (R 1) n (C 1), .int .i64 tk, .int .i64 kn] 33) := ⟨_, rfl⟩
  obtain ⟨bs, hbs⟩ : ∃ bs, bs = W.heap.size := ⟨_, rfl⟩
  have HBS : Hid (Bk V bs 33 #[.slice (R 1) n (C 1), .int .i64 tk, .int .i64 kn]) := by rw [hV, hbs]; exact Bk.new _ _ _
  have HBV : Hid (Below W.heap.size W V) := by rw [hV]; exact (Below.refl _ W).alloc (Nat.le_refl _) _
  clear hl hn htk hkn hgood
  go_enter Try.func33, Try.ntmps33
  go_upto_region 4 with (fail)
  rw [← hV, ← hbs]
  clear hV hbs c0 c1 c2 hlb
  obtain ⟨x0, x1, x2, z0, z1, z2, hxg⟩ := HBS.out.three
  obtain ⟨V3, hV3⟩ : ∃ V3, V3 = V.alloc (.cells #[.int .i64 3, .int .i64 n, .int .i64 tk, .string noBytes] 44) := ⟨_, rfl⟩
  obtain ⟨bl, hbl⟩ : ∃ bl, bl = V.heap.size := ⟨_, rfl⟩
  have hB3 : Bk V3 bl 44 #[.int .i64 3, .int .i64 n, .int .i64 tk, .string noBytes] := by rw [hV3, hbl]; exact Bk.new _ _ _
  have HBV3 : Hid (Below W.heap.size W V3) := by rw [hV3]; exact HBV.out.alloc HBV.out.size _
  have hLA3 : LinkAt L lb st R C V3 := HL0.out.over HBV3.out
  have HKE3 : Hid (Kept lb R R W V3) := Kept.of_below _ _ HBV3.out
  have hput := put_0 L lb st R C V3 (some ⟨bl, 0, none⟩) 1 1 [⟨3, n, tk, noBytes⟩] hLA3 hu (Nat.le_trans hLW HKE3.out.size) (by unfold maxLen; omega) ⟨rfl, fun _ => ⟨_, rfl, hB3.lt, World.news_of_block hB3⟩⟩
    (fun p hp hi => by injection hp with hp; subst hp; have h1 := (HL0.out.blocks _ hi).2; have := HBV.out.size; dsimp only at h1; omega)
  have HPUT := Lib.hid hput
  clear hput hB3 hLA3
  unfold noBytes at hV3
  go_wp2_with fail
  rw [← hV3, ← hbl]
  clear hV3 hbl
  refine HPUT.out.mono ?_
  rintro e w4 ⟨rfl, R4, C4, hla4, hke4⟩
  have HLA4 := Lib.hid hla4
  have HKE4 := Lib.hid hke4
  clear hla4 hke4 x0 x1 x2 z0 z1 z2 hxg
  go_wp2
  go_ret
  rw [HSK.out, HF.out]
  exact ⟨rfl, R4, C4, HLA4.out, HKE3.out.trans HKE4.out⟩

end Go.Proofs.Ytnbndhmdfheikaa.D

/- Walk of the document's Lose, at each end. By gen_d.py. -/
namespace Go.Proofs.Ytnbndhmdfheikaa.D
open Go.RowKit

theorem rd_take {w : World} {B n p : Nat} {A : Option Addr} {l : List Fr} (h : Rd w B 4 A n (frs l)) (hp : p ≤ n) : Rd w B 4 A p (frs (l.take p)) := by
  have hl := h.1
  rw [frs_len] at hl
  refine ⟨by rw [frs_len, List.length_take]; omega, fun h0 => ?_⟩
  obtain ⟨a, e, hb, hc⟩ := h.2 (by omega)
  refine ⟨a, e, hb, fun j u hu => hc j u ?_⟩
  have hj := (List.getElem?_eq_some_iff.1 hu).1
  rw [frs_len, List.length_take] at hj
  rw [← frs_take, List.getElem?_take_of_lt (by omega)] at hu
  exact hu
theorem rd_drop {w : World} {B n p g : Nat} {l : List Fr} (h : Rd w B 4 (some ⟨g, 0, none⟩) n (frs l)) : Rd w B 4 (some ⟨g, p * 4, none⟩) (n - p) (frs (l.drop p)) := by
  have hl := h.1
  rw [frs_len] at hl
  refine ⟨by rw [frs_len, List.length_drop]; omega, fun h0 => ?_⟩
  obtain ⟨a, e, hb, hc⟩ := h.2 (by omega)
  injection e with e
  subst e
  refine ⟨_, rfl, hb, fun j u hu => ?_⟩
  rw [← frs_drop, List.getElem?_drop] at hu
  have := hc _ u hu
  rw [add0] at this ⊢
  rw [Nat.zero_add] at this
  exact this

/-- All blocks below B are as they were; the tape may have been drawn from. -/
abbrev Bel (B : Nat) (w w' : World) : Prop := Below B w w'
theorem Bel.of {B : Nat} {w w' : World} (h : Below B w w') : Bel B w w' := h
theorem Bel.grown {w V V' : World} {row : Option Nat} (h : Bel w.heap.size w V) (hg : V.grownBy V' row) (hr : ∀ g, row = some g → w.heap.size ≤ g) : Bel w.heap.size w V' := Below.grown h hg h.size hr
theorem Bel.bk {w V : World} (h : Bel w.heap.size w V) {g : Nat} {t : TypeId} {cs : Array Value} (hb : Bk w g t cs) : Bk V g t cs := hb.below h hb.lt
theorem Bel.rd {w V : World} (h : Bel w.heap.size w V) {k n : Nat} {A : Option Addr} {xs : List Value} (hr : Rd w w.heap.size k A n xs) : Rd V w.heap.size k A n xs := hr.below h

set_option maxHeartbeats 8000000 in
set_option maxRecDepth 100000 in
theorem lose_0 (L lb : Nat) (st : Lk) (R : Nat → Option Addr) (C : Nat → Nat) (W : World) (i : Int) (hl : LinkAt L lb st R C W) (hu : (st.u 0).length ≤ 4096) (hLW : L ≤ W.heap.size) :
    Calls Try.prog 35 #[.pointer (some ⟨lb, 0, none⟩), .int .i64 0, .int .i64 i] W fun e W' => e = .returned (.int .i64 (loseK st 0 i).2) ∧ LOut L lb R W (loseK st 0 i).1 W' := by
  by_cases hin : 0 ≤ i ∧ i < (st.u 0).length
  case neg =>
    rw [show loseK st 0 i = (st, 1) from if_neg hin]
    have q0 : W.cell? ⟨lb, 6, none⟩ = some (.slice (R 2) (st.u 0).length (C 2)) := by rw [hl.bk.cell]; simp [lkCells]
    have hlb := hl.bk.lt
    have HL0 := Lib.hid hl
    obtain ⟨n, hn⟩ : ∃ n, n = (st.u 0).length := ⟨_, rfl⟩
    rw [← hn] at q0 hu hin
    clear hl hn
    by_cases h0 : 0 ≤ i
    · have i1 : ¬ i < 0 := by omega
      have i2 : ¬ i < (n : Int) := fun h => hin ⟨h0, h⟩
      have i3 : (n : Int) ≤ i := by omega
      clear hin
      go_enter Try.func35, Try.ntmps35
      go_wp2
      go_ret
      exact ⟨rfl, R, C, HL0.out, Kept.refl _ _ _⟩
    · have i1 : i < 0 := by omega
      clear hin
      go_enter Try.func35, Try.ntmps35
      go_wp2
      go_ret
      exact ⟨rfl, R, C, HL0.out, Kept.refl _ _ _⟩
  rw [show loseK st 0 i = (st.setU 0 (without (st.u 0) i.toNat), 0) from if_pos hin]
  have hown : W.ownsRow L 44 4 (.slice (R 2) (st.u 0).length (C 2)) (st.u 0).length (frs (st.u 0)) := by simpa [rowTy, rowSz, rowLn, rowXs] using hl.own 2 (by omega)
  obtain ⟨p, rfl⟩ : ∃ p : Nat, i = (p : Int) := ⟨i.toNat, by omega⟩
  obtain ⟨m, hm⟩ : ∃ m, (st.u 0).length = m + 1 := ⟨(st.u 0).length - 1, by omega⟩
  have hpm : p < m + 1 := by omega
  obtain ⟨g, cur, hRg, hLg, hBg, hnc, hcm, hsz, htk⟩ := row_open hown (by omega)
  obtain ⟨c, hc⟩ : ∃ c, c = C 2 := ⟨_, rfl⟩
  rw [hm] at htk hnc
  rw [← hc] at hcm hsz hnc
  have HR : Hid (R 2 = some ⟨g, 0, none⟩ ∧ (st.u 0).length = m + 1 ∧ C 2 = c) := ⟨hRg, hm, hc.symm⟩
  rw [Int.toNat_natCast]
  have hrdo : Rd W W.heap.size 4 (some ⟨g, 0, none⟩) (m + 1) (frs (st.u 0)) := by have := Rd.of_own hown; rw [hRg, hm] at this; exact this
  obtain ⟨A9, hA9, HRB⟩ : ∃ A9 : Addr, (if c = p + 1 then some (⟨g, 0, none⟩ : Addr) else some ⟨g, (p + 1) * 4, none⟩) = some A9 ∧ Hid (Rd W W.heap.size 4 (some A9) (m - p) (frs ((st.u 0).drop (p + 1)))) := by
    by_cases h : c = p + 1
    · refine ⟨⟨g, 0, none⟩, by rw [if_pos h], ?_⟩
      have e1 : m - p = 0 := by omega
      have e2 : (st.u 0).drop (p + 1) = [] := List.drop_eq_nil_of_le (by omega)
      rw [e1, e2]
      exact Rd.nil _ _ _ _
    · refine ⟨⟨g, (p + 1) * 4, none⟩, by rw [if_neg h], ?_⟩
      have := rd_drop (p := p + 1) hrdo
      rw [show m + 1 - (p + 1) = m - p by omega] at this
      exact this
  have HRA : Hid (Rd (W.alloc (.cells #[] 44)) W.heap.size 4 (some ⟨g, 0, none⟩) p (frs ((st.u 0).take p))) := (rd_take hrdo (by omega)).alloc (Nat.le_refl _) _
  have HE : Hid ((W.alloc (.cells #[] 44)).ownsRow W.heap.size 44 4 (.slice (some ⟨W.heap.size, 0, none⟩) 0 0) 0 []) := ⟨by simp, .inr ⟨W.heap.size, 0, #[], rfl, Nat.le_refl _, Bk.new _ _ _, Nat.le_refl _, Nat.zero_le _, by simp, by simp⟩⟩
  have HBK := Lib.hid hl.bk
  have q0 : W.cell? ⟨lb, 6, none⟩ = some (.slice (some ⟨g, 0, none⟩) (m + 1) c) := by rw [hl.bk.cell, ← HR.out.1, ← HR.out.2.1, ← HR.out.2.2]; simp [lkCells]
  have hlb := hl.bk.lt
  have HL0 := Lib.hid hl
  obtain ⟨i0, hinf, hz0, hz1, hz2⟩ := info_parts info44
  have hml : m + 1 ≤ 4096 := by omega
  unfold maxLen at hcm
  have i1 : ¬ (p : Int) < 0 := by omega
  have i2 : (p : Int) < (m : Int) + 1 := by omega
  have i3 : ¬ (m : Int) + 1 ≤ (p : Int) := by omega
  have i4 : IntKind.i64.wrap ((p : Int) + 1) = (p : Int) + 1 := IntWalk.i64_in _ (by omega)
  have j1 : (0 : Int) ≤ (p : Int) := by omega
  have j2 : (p : Int) ≤ (c : Int) := by omega
  have j3 : (p : Int) + 1 ≤ (m : Int) + 1 := by omega
  have j4 : (m : Int) + 1 ≤ (c : Int) := by omega
  have j5 : ((p : Int) + 1).toNat = p + 1 := by omega
  have j8 : (p : Int) + 1 ≤ (c : Int) := by omega
  have j9 : (0 : Int) ≤ (p : Int) + 1 := by omega
  have j10 : ((m : Int) + 1).toNat = m + 1 := by omega
  have HPM := Lib.hid hpm
  have HS1 : Hid ((fun V => V.cell? ⟨lb, 6, none⟩ = some (.slice (some ⟨g, 0, none⟩) (m + 1) c)) ((W.alloc (.cells #[] 44)).drew)) := by
    show (W.alloc (.cells #[] 44)).cell? ⟨lb, 6, none⟩ = _
    rw [World.cell?_alloc_lt _ _ _ hlb]
    exact q0
  clear hl hin hown hRg hLg hBg hnc hsz htk hc hm hu hrdo
  go_enter Try.func35, Try.ntmps35
  go_upto_region 3 with (fail)
  have q0d : (fun V => V.cell? ⟨lb, 6, none⟩ = some (.slice (some ⟨g, 0, none⟩) (m + 1) c)) W.drew := q0
  refine region_anyL (fun V => V.cell? ⟨lb, 6, none⟩ = some (.slice (some ⟨g, 0, none⟩) (m + 1) c)) 25 (by kernel_rfl) ?_
  refine anyL_take (i := 0) (oi := { dst := some 28, op := Op.move (Operand.tmp 0), type := 47, pos := "ref.go:53", after := #[], guard := none }) (v := ?_) rfl (by kernel_rfl) (by kernel_rfl) (by kernel_rfl) (by kernel_rfl) (fun _ _ _ h => h) (Or.inl ⟨by rfl, ?_⟩) (q0d) ?_
  rotate_left
  · intro w hSw
    try dsimp only at hSw
    have q0 := hSw
    first | (go_simp <;> fail) | (go_simp; with_reducible rfl)
  try simp only [Act.put, List.setIfInBounds_toArray, List.set_cons_zero, List.set_cons_succ]
  refine anyL_take (i := 1) (oi := { dst := some 29, op := Op.move (Operand.tmp 1), type := 3, pos := "ref.go:53", after := #[], guard := none }) (v := ?_) rfl (by kernel_rfl) (by kernel_rfl) (by kernel_rfl) (by kernel_rfl) (fun _ _ _ h => h) (Or.inl ⟨by rfl, ?_⟩) (q0d) ?_
  rotate_left
  · intro w hSw
    try dsimp only at hSw
    have q0 := hSw
    first | (go_simp <;> fail) | (go_simp; with_reducible rfl)
  try simp only [Act.put, List.setIfInBounds_toArray, List.set_cons_zero, List.set_cons_succ]
  refine anyL_take (i := 3) (oi := { dst := some 31, op := Op.move (Operand.tmp 0), type := 47, pos := "ref.go:53", after := #[], guard := none }) (v := ?_) rfl (by kernel_rfl) (by kernel_rfl) (by kernel_rfl) (by kernel_rfl) (fun _ _ _ h => h) (Or.inl ⟨by rfl, ?_⟩) (q0d) ?_
  rotate_left
  · intro w hSw
    try dsimp only at hSw
    have q0 := hSw
    first | (go_simp <;> fail) | (go_simp; with_reducible rfl)
  try simp only [Act.put, List.setIfInBounds_toArray, List.set_cons_zero, List.set_cons_succ]
  refine anyL_take (i := 4) (oi := { dst := some 32, op := Op.move (Operand.tmp 1), type := 3, pos := "ref.go:53", after := #[], guard := none }) (v := ?_) rfl (by kernel_rfl) (by kernel_rfl) (by kernel_rfl) (by kernel_rfl) (fun _ _ _ h => h) (Or.inl ⟨by rfl, ?_⟩) (q0d) ?_
  rotate_left
  · intro w hSw
    try dsimp only at hSw
    have q0 := hSw
    first | (go_simp <;> fail) | (go_simp; with_reducible rfl)
  try simp only [Act.put, List.setIfInBounds_toArray, List.set_cons_zero, List.set_cons_succ]
  refine anyL_take (i := 5) (oi := { dst := some 33, op := Op.nilCheck (Operand.tmp 31), type := 0, pos := "ref.go:53", after := #[{ on := 3, ground := Ground.data }], guard := none }) (v := ?_) rfl (by kernel_rfl) (by kernel_rfl) (by kernel_rfl) (by kernel_rfl) (fun _ _ _ h => h) (Or.inl ⟨by rfl, ?_⟩) (q0d) ?_
  rotate_left
  · intro w hSw
    try dsimp only at hSw
    have q0 := hSw
    first | (go_simp <;> fail) | (go_simp; with_reducible rfl)
  try simp only [Act.put, List.setIfInBounds_toArray, List.set_cons_zero, List.set_cons_succ]
  refine anyL_take (i := 6) (oi := { dst := some 34, op := Op.fieldAddr 52 (Operand.tmp 33) 1, type := 0, pos := "ref.go:53", after := #[{ on := 5, ground := Ground.data }], guard := none }) (v := ?_) rfl (by kernel_rfl) (by kernel_rfl) (by kernel_rfl) (by kernel_rfl) (fun _ _ _ h => h) (Or.inl ⟨by rfl, ?_⟩) (q0d) ?_
  rotate_left
  · intro w hSw
    try dsimp only at hSw
    have q0 := hSw
    first | (go_simp <;> fail) | (go_simp; with_reducible rfl)
  try simp only [Act.put, List.setIfInBounds_toArray, List.set_cons_zero, List.set_cons_succ]
  refine anyL_take (i := 7) (oi := { dst := some 35, op := Op.indexAddr 49 (Operand.tmp 34) (Operand.tmp 32), type := 0, pos := "ref.go:53", after := #[{ on := 6, ground := Ground.data }, { on := 4, ground := Ground.data }], guard := none }) (v := ?_) rfl (by kernel_rfl) (by kernel_rfl) (by kernel_rfl) (by kernel_rfl) (fun _ _ _ h => h) (Or.inl ⟨by rfl, ?_⟩) (q0d) ?_
  rotate_left
  · intro w hSw
    try dsimp only at hSw
    have q0 := hSw
    first | (go_simp <;> fail) | (go_simp; with_reducible rfl)
  try simp only [Act.put, List.setIfInBounds_toArray, List.set_cons_zero, List.set_cons_succ]
  refine anyL_take (i := 8) (oi := { dst := some 36, op := Op.load 38 (Operand.tmp 35), type := 38, pos := "ref.go:53", after := #[{ on := 7, ground := Ground.data }], guard := none }) (v := ?_) rfl (by kernel_rfl) (by kernel_rfl) (by kernel_rfl) (by kernel_rfl) (fun _ _ _ h => h) (Or.inl ⟨by rfl, ?_⟩) (q0d) ?_
  rotate_left
  · intro w hSw
    try dsimp only at hSw
    have q0 := hSw
    first | (go_simp <;> fail) | (go_simp; with_reducible rfl)
  try simp only [Act.put, List.setIfInBounds_toArray, List.set_cons_zero, List.set_cons_succ]
  refine anyL_take (i := 9) (oi := { dst := some 37, op := Op.move (Operand.tmp 2), type := 3, pos := "ref.go:53", after := #[], guard := none }) (v := ?_) rfl (by kernel_rfl) (by kernel_rfl) (by kernel_rfl) (by kernel_rfl) (fun _ _ _ h => h) (Or.inl ⟨by rfl, ?_⟩) (q0d) ?_
  rotate_left
  · intro w hSw
    try dsimp only at hSw
    have q0 := hSw
    first | (go_simp <;> fail) | (go_simp; with_reducible rfl)
  try simp only [Act.put, List.setIfInBounds_toArray, List.set_cons_zero, List.set_cons_succ]
  refine anyL_take (i := 10) (oi := { dst := some 38, op := Op.slice 38 (Operand.tmp 36) none (some (Operand.tmp 37)) none, type := 38, pos := "ref.go:53", after := #[{ on := 8, ground := Ground.data }, { on := 9, ground := Ground.data }], guard := none }) (v := ?_) rfl (by kernel_rfl) (by kernel_rfl) (by kernel_rfl) (by kernel_rfl) (fun _ _ _ h => h) (Or.inl ⟨by rfl, ?_⟩) (q0d) ?_
  rotate_left
  · intro w hSw
    try dsimp only at hSw
    have q0 := hSw
    first | (go_simp <;> fail) | (go_simp; with_reducible rfl)
  try simp only [Act.put, List.setIfInBounds_toArray, List.set_cons_zero, List.set_cons_succ]
  refine anyL_take (i := 12) (oi := { dst := some 40, op := Op.move (Operand.tmp 0), type := 47, pos := "ref.go:53", after := #[], guard := none }) (v := ?_) rfl (by kernel_rfl) (by kernel_rfl) (by kernel_rfl) (by kernel_rfl) (fun _ _ _ h => h) (Or.inl ⟨by rfl, ?_⟩) (q0d) ?_
  rotate_left
  · intro w hSw
    try dsimp only at hSw
    have q0 := hSw
    first | (go_simp <;> fail) | (go_simp; with_reducible rfl)
  try simp only [Act.put, List.setIfInBounds_toArray, List.set_cons_zero, List.set_cons_succ]
  refine anyL_take (i := 13) (oi := { dst := some 41, op := Op.move (Operand.tmp 1), type := 3, pos := "ref.go:53", after := #[], guard := none }) (v := ?_) rfl (by kernel_rfl) (by kernel_rfl) (by kernel_rfl) (by kernel_rfl) (fun _ _ _ h => h) (Or.inl ⟨by rfl, ?_⟩) (q0d) ?_
  rotate_left
  · intro w hSw
    try dsimp only at hSw
    have q0 := hSw
    first | (go_simp <;> fail) | (go_simp; with_reducible rfl)
  try simp only [Act.put, List.setIfInBounds_toArray, List.set_cons_zero, List.set_cons_succ]
  refine anyL_take (i := 14) (oi := { dst := some 42, op := Op.nilCheck (Operand.tmp 40), type := 0, pos := "ref.go:53", after := #[{ on := 12, ground := Ground.data }], guard := none }) (v := ?_) rfl (by kernel_rfl) (by kernel_rfl) (by kernel_rfl) (by kernel_rfl) (fun _ _ _ h => h) (Or.inl ⟨by rfl, ?_⟩) (q0d) ?_
  rotate_left
  · intro w hSw
    try dsimp only at hSw
    have q0 := hSw
    first | (go_simp <;> fail) | (go_simp; with_reducible rfl)
  try simp only [Act.put, List.setIfInBounds_toArray, List.set_cons_zero, List.set_cons_succ]
  refine anyL_take (i := 15) (oi := { dst := some 43, op := Op.fieldAddr 52 (Operand.tmp 42) 1, type := 0, pos := "ref.go:53", after := #[{ on := 14, ground := Ground.data }], guard := none }) (v := ?_) rfl (by kernel_rfl) (by kernel_rfl) (by kernel_rfl) (by kernel_rfl) (fun _ _ _ h => h) (Or.inl ⟨by rfl, ?_⟩) (q0d) ?_
  rotate_left
  · intro w hSw
    try dsimp only at hSw
    have q0 := hSw
    first | (go_simp <;> fail) | (go_simp; with_reducible rfl)
  try simp only [Act.put, List.setIfInBounds_toArray, List.set_cons_zero, List.set_cons_succ]
  refine anyL_take (i := 16) (oi := { dst := some 44, op := Op.indexAddr 49 (Operand.tmp 43) (Operand.tmp 41), type := 0, pos := "ref.go:53", after := #[{ on := 15, ground := Ground.data }, { on := 13, ground := Ground.data }], guard := none }) (v := ?_) rfl (by kernel_rfl) (by kernel_rfl) (by kernel_rfl) (by kernel_rfl) (fun _ _ _ h => h) (Or.inl ⟨by rfl, ?_⟩) (q0d) ?_
  rotate_left
  · intro w hSw
    try dsimp only at hSw
    have q0 := hSw
    first | (go_simp <;> fail) | (go_simp; with_reducible rfl)
  try simp only [Act.put, List.setIfInBounds_toArray, List.set_cons_zero, List.set_cons_succ]
  refine anyL_take (i := 17) (oi := { dst := some 45, op := Op.load 38 (Operand.tmp 44), type := 38, pos := "ref.go:53", after := #[{ on := 16, ground := Ground.data }], guard := none }) (v := ?_) rfl (by kernel_rfl) (by kernel_rfl) (by kernel_rfl) (by kernel_rfl) (fun _ _ _ h => h) (Or.inl ⟨by rfl, ?_⟩) (q0d) ?_
  rotate_left
  · intro w hSw
    try dsimp only at hSw
    have q0 := hSw
    first | (go_simp <;> fail) | (go_simp; with_reducible rfl)
  try simp only [Act.put, List.setIfInBounds_toArray, List.set_cons_zero, List.set_cons_succ]
  refine anyL_take (i := 18) (oi := { dst := some 46, op := Op.move (Operand.tmp 2), type := 3, pos := "ref.go:53", after := #[], guard := none }) (v := ?_) rfl (by kernel_rfl) (by kernel_rfl) (by kernel_rfl) (by kernel_rfl) (fun _ _ _ h => h) (Or.inl ⟨by rfl, ?_⟩) (q0d) ?_
  rotate_left
  · intro w hSw
    try dsimp only at hSw
    have q0 := hSw
    first | (go_simp <;> fail) | (go_simp; with_reducible rfl)
  try simp only [Act.put, List.setIfInBounds_toArray, List.set_cons_zero, List.set_cons_succ]
  refine anyL_take (i := 19) (oi := { dst := some 47, op := Op.binOp BinOp.add 3 (Operand.tmp 46) (Operand.const (Value.int IntKind.i64 1)) 3, type := 3, pos := "ref.go:53", after := #[{ on := 18, ground := Ground.data }], guard := none }) (v := ?_) rfl (by kernel_rfl) (by kernel_rfl) (by kernel_rfl) (by kernel_rfl) (fun _ _ _ h => h) (Or.inl ⟨by rfl, ?_⟩) (q0d) ?_
  rotate_left
  · intro w hSw
    try dsimp only at hSw
    have q0 := hSw
    first | (go_simp <;> fail) | (go_simp; with_reducible rfl)
  try simp only [Act.put, List.setIfInBounds_toArray, List.set_cons_zero, List.set_cons_succ]
  refine anyL_take (i := 20) (oi := { dst := some 48, op := Op.slice 38 (Operand.tmp 45) (some (Operand.tmp 47)) none none, type := 38, pos := "ref.go:53", after := #[{ on := 17, ground := Ground.data }, { on := 19, ground := Ground.data }], guard := none }) (v := ?_) rfl (by kernel_rfl) (by kernel_rfl) (by kernel_rfl) (by kernel_rfl) (fun _ _ _ h => h) (Or.inl ⟨by rfl, ?_⟩) (q0d) ?_
  rotate_left
  · intro w hSw
    try dsimp only at hSw
    have q0 := hSw
    first | (go_simp <;> fail) | (go_simp; with_reducible rfl)
  try simp only [Act.put, List.setIfInBounds_toArray, List.set_cons_zero, List.set_cons_succ]
  refine anyL_takeC [23, 24] (i := 22) (oi := { dst := some 50, op := Op.nilCheck (Operand.tmp 28), type := 0, pos := "ref.go:53", after := #[{ on := 0, ground := Ground.data }], guard := none }) (v := ?_) rfl (by kernel_rfl) (by kernel_rfl) (by kernel_rfl) (by kernel_rfl) (by kernel_rfl) (fun _ _ _ h => h) (Or.inl ⟨by rfl, ?_⟩) (q0d) ?_
  rotate_left
  · intro w hSw
    try dsimp only at hSw
    have q0 := hSw
    first | (go_simp <;> fail) | (go_simp; with_reducible rfl)
  try simp only [Act.put, List.setIfInBounds_toArray, List.set_cons_zero, List.set_cons_succ]
  refine anyL_takeC [24] (i := 23) (oi := { dst := some 51, op := Op.fieldAddr 52 (Operand.tmp 50) 1, type := 0, pos := "ref.go:53", after := #[{ on := 22, ground := Ground.data }], guard := none }) (v := ?_) rfl (by kernel_rfl) (by kernel_rfl) (by kernel_rfl) (by kernel_rfl) (by kernel_rfl) (fun _ _ _ h => h) (Or.inl ⟨by rfl, ?_⟩) (q0d) ?_
  rotate_left
  · intro w hSw
    try dsimp only at hSw
    have q0 := hSw
    first | (go_simp <;> fail) | (go_simp; with_reducible rfl)
  try simp only [Act.put, List.setIfInBounds_toArray, List.set_cons_zero, List.set_cons_succ]
  refine anyL_one (i := 2) (o := { dst := some 30, op := Op.buildSlice 38 0 #[], type := 38, pos := "ref.go:53", after := #[], guard := none }) (by kernel_rfl) rfl (fun K hK => ?_)
  go_simp
  refine hK.out _ _ (fun _ => HS1.out) ?_
  clear hK K
  try simp only [Act.put, List.setIfInBounds_toArray, List.set_cons_zero, List.set_cons_succ]
  refine anyL_one (i := 11) (o := { dst := some 39, op := Op.call { callee := Callee.builtin Builtin.append, args := #[Operand.tmp 30, Operand.tmp 38], argTypes := #[38, 38] }, type := 38, pos := "ref.go:53", after := #[{ on := 2, ground := Ground.data }, { on := 10, ground := Ground.data }], guard := none }) (by kernel_rfl) rfl (fun K hK => ?_)
  refine step_append_rd _ rfl (.tmp 30) (.tmp 38) _ rfl W.heap.size 44 i0 _ 4 40 Try.underlying38 hinf hz0 hz1 hz2 rfl (by omega) _ 0 [] rfl HE.out.drew W.heap.size _ p c (frs ((st.u 0).take p)) rfl HRA.out.drew (frs_one _) (by unfold maxLen; omega) (by omega) (by show W.heap.size ≤ (W.alloc (.cells #[] 44)).heap.size; simp) ?_
  intro A1 c1 w1 h1 h2 hown1 hg1x hat1x
  have HX1 : Hid (Bel W.heap.size W w1) := Bel.grown (Bel.of (((Below.refl W.heap.size W).alloc (Nat.le_refl _) _).drew)) hg1x (fun k hk => Nat.le_of_eq (Option.some.inj hk))
  have HOW1 := Lib.hid hown1
  clear hown1 hg1x hat1x h1 h2
  have hlb1 := HX1.out.bk HBK.out
  have q0 : w1.cell? ⟨lb, 6, none⟩ = some (.slice (some ⟨g, 0, none⟩) (m + 1) c) := by rw [hlb1.cell, ← HR.out.1, ← HR.out.2.1, ← HR.out.2.2]; simp [lkCells]
  have hz9 := HX1.out.size
  have HRB1 : Hid (Rd w1 W.heap.size 4 (some A9) (m - p) (frs ((st.u 0).drop (p + 1)))) := HX1.out.rd HRB.out
  clear hlb1
  refine hK.out _ _ (fun _ => q0) ?_
  clear hK K
  try simp only [Act.put, List.setIfInBounds_toArray, List.set_cons_zero, List.set_cons_succ]
  refine anyL_one (i := 21) (o := { dst := some 49, op := Op.call { callee := Callee.builtin Builtin.append, args := #[Operand.tmp 39, Operand.tmp 48], argTypes := #[38, 38] }, type := 38, pos := "ref.go:53", after := #[{ on := 11, ground := Ground.data }, { on := 20, ground := Ground.data }, { on := 11, ground := Ground.chain }], guard := none }) (by kernel_rfl) rfl (fun K hK => ?_)
  refine step_append_rd _ rfl (.tmp 39) (.tmp 48) _ rfl W.heap.size 44 i0 _ 4 40 Try.underlying38 hinf hz0 hz1 hz2 rfl (by omega) _ (0 + p) ([] ++ frs ((st.u 0).take p)) rfl HOW1.out W.heap.size _ (m - p) (c - (p + 1)) (frs ((st.u 0).drop (p + 1))) rfl HRB1.out (frs_one _) (by unfold maxLen; omega) (by omega) (by omega) ?_
  intro A2 c2 w2 h1 h2 hown1 hg1x hat1x
  have HX2 : Hid (Bel W.heap.size W w2) := Bel.grown HX1.out hg1x (fun k hk => (HOW1.out.lt k hk).1)
  have HOW2 := Lib.hid hown1
  clear hown1 hg1x hat1x h1 h2
  have hlb1 := HX2.out.bk HBK.out
  have q0 : w2.cell? ⟨lb, 6, none⟩ = some (.slice (some ⟨g, 0, none⟩) (m + 1) c) := by rw [hlb1.cell, ← HR.out.1, ← HR.out.2.1, ← HR.out.2.2]; simp [lkCells]
  have z0 := hlb1.frozen 6
  have hlb := hlb1.lt
  clear hlb1
  refine hK.out _ _ (fun _ => q0) ?_
  clear hK K
  try simp only [Act.put, List.setIfInBounds_toArray, List.set_cons_zero, List.set_cons_succ]
  refine anyL_take (i := 24) (oi := { dst := some 52, op := Op.indexAddr 49 (Operand.tmp 51) (Operand.tmp 29), type := 0, pos := "ref.go:53", after := #[{ on := 23, ground := Ground.data }, { on := 1, ground := Ground.data }, { on := 0, ground := Ground.phase }, { on := 1, ground := Ground.phase }, { on := 2, ground := Ground.phase }, { on := 3, ground := Ground.phase }, { on := 4, ground := Ground.phase }, { on := 5, ground := Ground.phase }, { on := 6, ground := Ground.phase }, { on := 7, ground := Ground.phase }, { on := 8, ground := Ground.phase }, { on := 9, ground := Ground.phase }, { on := 10, ground := Ground.phase }, { on := 11, ground := Ground.phase }, { on := 12, ground := Ground.phase }, { on := 13, ground := Ground.phase }, { on := 14, ground := Ground.phase }, { on := 15, ground := Ground.phase }, { on := 16, ground := Ground.phase }, { on := 17, ground := Ground.phase }, { on := 18, ground := Ground.phase }, { on := 19, ground := Ground.phase }, { on := 20, ground := Ground.phase }, { on := 21, ground := Ground.phase }], guard := none }) (v := ?_) rfl (by kernel_rfl) (by kernel_rfl) (by kernel_rfl) (by kernel_rfl) (fun _ _ _ h => h) (Or.inl ⟨by rfl, ?_⟩) (q0) ?_
  rotate_left
  · intro w hSw
    try dsimp only at hSw
    have q0 := hSw
    first | (go_simp <;> fail) | (go_simp; with_reducible rfl)
  try simp only [Act.put, List.setIfInBounds_toArray, List.set_cons_zero, List.set_cons_succ]
  refine anyL_one (i := 25) (o := { dst := none, op := Op.store 38 (Operand.tmp 52) (Operand.tmp 49), type := 0, pos := "ref.go:53", after := #[{ on := 24, ground := Ground.data }, { on := 21, ground := Ground.data }, { on := 21, ground := Ground.chain }, { on := 0, ground := Ground.phase }, { on := 1, ground := Ground.phase }, { on := 2, ground := Ground.phase }, { on := 3, ground := Ground.phase }, { on := 4, ground := Ground.phase }, { on := 5, ground := Ground.phase }, { on := 6, ground := Ground.phase }, { on := 7, ground := Ground.phase }, { on := 8, ground := Ground.phase }, { on := 9, ground := Ground.phase }, { on := 10, ground := Ground.phase }, { on := 11, ground := Ground.phase }, { on := 12, ground := Ground.phase }, { on := 13, ground := Ground.phase }, { on := 14, ground := Ground.phase }, { on := 15, ground := Ground.phase }, { on := 16, ground := Ground.phase }, { on := 17, ground := Ground.phase }, { on := 18, ground := Ground.phase }, { on := 19, ground := Ground.phase }, { on := 20, ground := Ground.phase }, { on := 21, ground := Ground.phase }], guard := none }) (by kernel_rfl) rfl (fun K hK => ?_)
  go_simp
  refine hK.out _ _ (fun h0 => absurd rfl h0) ?_
  clear hK K
  try simp only [Act.put, List.setIfInBounds_toArray, List.set_cons_zero, List.set_cons_succ]
  refine anyL_done (by kernel_rfl) ?_ _
  have e0 : 0 + p + (m - p) = m := by omega
  have hwl := without_len HR.out.2.1 HPM.out
  have hbkN : Bk (w2.setCell ⟨lb, 6, none⟩ (.slice A2 (0 + p + (m - p)) c2)) lb 52 (lkCells (st.setU 0 (without (st.u 0) p)) (upd R 2 A2) (upd C 2 c2)) := by
    have h := (HX2.out.bk HBK.out).set 6 (.slice A2 (0 + p + (m - p)) c2)
    rw [e0] at h ⊢
    have e : (lkCells st R C).setIfInBounds 6 (.slice A2 m c2) = lkCells (st.setU 0 (without (st.u 0) p)) (upd R 2 A2) (upd C 2 c2) := by simp [lkCells, Lk.setU, upd, hwl]
    rwa [e] at h
  have hlt2 : ∀ q, A2 = some q → W.heap.size ≤ q.block := fun q hq => (own_lt HOW2.out q hq).1
  have hres := LinkAt.row (st' := st.setU 0 (without (st.u 0) p)) (j := 2) (W' := w2.setCell ⟨lb, 6, none⟩ (.slice A2 (0 + p + (m - p)) c2)) HL0.out (by omega) (fun i hi hne => by
    have h6 : i = 0 ∨ i = 1 ∨ i = 2 ∨ i = 3 ∨ i = 4 ∨ i = 5 := by omega
    rcases h6 with rfl | rfl | rfl | rfl | rfl | rfl <;> first | exact absurd rfl hne | simp [rowLn, rowXs, Lk.setU, upd]) hbkN
    (by
      have h : w2.ownsRow W.heap.size 44 4 (.slice A2 m c2) m (frs (without (st.u 0) p)) := by
        have h := HOW2.out
        rw [e0, List.nil_append, ← frs_append] at h
        exact h
      show World.ownsRow _ L 44 4 (.slice A2 (upd st.u 0 (without (st.u 0) p) 0).length c2) (upd st.u 0 (without (st.u 0) p) 0).length (frs (upd st.u 0 (without (st.u 0) p) 0))
      rw [upd_same, hwl]
      exact own_keep (own_mono h hLW) fun q hq => Below.heap_setCell w2 ⟨lb, 6, none⟩ _ q.block (by have := hlt2 q hq; have := HL0.out.bk.lt; dsimp only; omega))
    (fun b hb hlbn _ => (Below.heap_setCell w2 ⟨lb, 6, none⟩ _ b hlbn).trans (HX2.out.block b hb)) (fun q hq => .inr (hlt2 q hq)) HX2.out.os HX2.out.tape HX2.out.output (by simpa [World.setCell] using HX2.out.size)
  rw [Nat.zero_add] at hres
  have HRES := Lib.hid hres
  clear hres hbkN hlt2 e0 hwl hA9 z0 hlb q0 q0d
  go_wp2
  go_ret
  exact ⟨rfl, _, _, HRES.out.1, HRES.out.2⟩

set_option maxHeartbeats 8000000 in
set_option maxRecDepth 100000 in
theorem lose_1 (L lb : Nat) (st : Lk) (R : Nat → Option Addr) (C : Nat → Nat) (W : World) (i : Int) (hl : LinkAt L lb st R C W) (hu : (st.u 1).length ≤ 4096) (hLW : L ≤ W.heap.size) :
    Calls Try.prog 35 #[.pointer (some ⟨lb, 0, none⟩), .int .i64 1, .int .i64 i] W fun e W' => e = .returned (.int .i64 (loseK st 1 i).2) ∧ LOut L lb R W (loseK st 1 i).1 W' := by
  by_cases hin : 0 ≤ i ∧ i < (st.u 1).length
  case neg =>
    rw [show loseK st 1 i = (st, 1) from if_neg hin]
    have q0 : W.cell? ⟨lb, 7, none⟩ = some (.slice (R 3) (st.u 1).length (C 3)) := by rw [hl.bk.cell]; simp [lkCells]
    have hlb := hl.bk.lt
    have HL0 := Lib.hid hl
    obtain ⟨n, hn⟩ : ∃ n, n = (st.u 1).length := ⟨_, rfl⟩
    rw [← hn] at q0 hu hin
    clear hl hn
    by_cases h0 : 0 ≤ i
    · have i1 : ¬ i < 0 := by omega
      have i2 : ¬ i < (n : Int) := fun h => hin ⟨h0, h⟩
      have i3 : (n : Int) ≤ i := by omega
      clear hin
      go_enter Try.func35, Try.ntmps35
      go_wp2
      go_ret
      exact ⟨rfl, R, C, HL0.out, Kept.refl _ _ _⟩
    · have i1 : i < 0 := by omega
      clear hin
      go_enter Try.func35, Try.ntmps35
      go_wp2
      go_ret
      exact ⟨rfl, R, C, HL0.out, Kept.refl _ _ _⟩
  rw [show loseK st 1 i = (st.setU 1 (without (st.u 1) i.toNat), 0) from if_pos hin]
  have hown : W.ownsRow L 44 4 (.slice (R 3) (st.u 1).length (C 3)) (st.u 1).length (frs (st.u 1)) := by simpa [rowTy, rowSz, rowLn, rowXs] using hl.own 3 (by omega)
  obtain ⟨p, rfl⟩ : ∃ p : Nat, i = (p : Int) := ⟨i.toNat, by omega⟩
  obtain ⟨m, hm⟩ : ∃ m, (st.u 1).length = m + 1 := ⟨(st.u 1).length - 1, by omega⟩
  have hpm : p < m + 1 := by omega
  obtain ⟨g, cur, hRg, hLg, hBg, hnc, hcm, hsz, htk⟩ := row_open hown (by omega)
  obtain ⟨c, hc⟩ : ∃ c, c = C 3 := ⟨_, rfl⟩
  rw [hm] at htk hnc
  rw [← hc] at hcm hsz hnc
  have HR : Hid (R 3 = some ⟨g, 0, none⟩ ∧ (st.u 1).length = m + 1 ∧ C 3 = c) := ⟨hRg, hm, hc.symm⟩
  rw [Int.toNat_natCast]
  have hrdo : Rd W W.heap.size 4 (some ⟨g, 0, none⟩) (m + 1) (frs (st.u 1)) := by have := Rd.of_own hown; rw [hRg, hm] at this; exact this
  obtain ⟨A9, hA9, HRB⟩ : ∃ A9 : Addr, (if c = p + 1 then some (⟨g, 0, none⟩ : Addr) else some ⟨g, (p + 1) * 4, none⟩) = some A9 ∧ Hid (Rd W W.heap.size 4 (some A9) (m - p) (frs ((st.u 1).drop (p + 1)))) := by
    by_cases h : c = p + 1
    · refine ⟨⟨g, 0, none⟩, by rw [if_pos h], ?_⟩
      have e1 : m - p = 0 := by omega
      have e2 : (st.u 1).drop (p + 1) = [] := List.drop_eq_nil_of_le (by omega)
      rw [e1, e2]
      exact Rd.nil _ _ _ _
    · refine ⟨⟨g, (p + 1) * 4, none⟩, by rw [if_neg h], ?_⟩
      have := rd_drop (p := p + 1) hrdo
      rw [show m + 1 - (p + 1) = m - p by omega] at this
      exact this
  have HRA : Hid (Rd (W.alloc (.cells #[] 44)) W.heap.size 4 (some ⟨g, 0, none⟩) p (frs ((st.u 1).take p))) := (rd_take hrdo (by omega)).alloc (Nat.le_refl _) _
  have HE : Hid ((W.alloc (.cells #[] 44)).ownsRow W.heap.size 44 4 (.slice (some ⟨W.heap.size, 0, none⟩) 0 0) 0 []) := ⟨by simp, .inr ⟨W.heap.size, 0, #[], rfl, Nat.le_refl _, Bk.new _ _ _, Nat.le_refl _, Nat.zero_le _, by simp, by simp⟩⟩
  have HBK := Lib.hid hl.bk
  have q0 : W.cell? ⟨lb, 7, none⟩ = some (.slice (some ⟨g, 0, none⟩) (m + 1) c) := by rw [hl.bk.cell, ← HR.out.1, ← HR.out.2.1, ← HR.out.2.2]; simp [lkCells]
  have hlb := hl.bk.lt
  have HL0 := Lib.hid hl
  obtain ⟨i0, hinf, hz0, hz1, hz2⟩ := info_parts info44
  have hml : m + 1 ≤ 4096 := by omega
  unfold maxLen at hcm
  have i1 : ¬ (p : Int) < 0 := by omega
  have i2 : (p : Int) < (m : Int) + 1 := by omega
  have i3 : ¬ (m : Int) + 1 ≤ (p : Int) := by omega
  have i4 : IntKind.i64.wrap ((p : Int) + 1) = (p : Int) + 1 := IntWalk.i64_in _ (by omega)
  have j1 : (0 : Int) ≤ (p : Int) := by omega
  have j2 : (p : Int) ≤ (c : Int) := by omega
  have j3 : (p : Int) + 1 ≤ (m : Int) + 1 := by omega
  have j4 : (m : Int) + 1 ≤ (c : Int) := by omega
  have j5 : ((p : Int) + 1).toNat = p + 1 := by omega
  have j8 : (p : Int) + 1 ≤ (c : Int) := by omega
  have j9 : (0 : Int) ≤ (p : Int) + 1 := by omega
  have j10 : ((m : Int) + 1).toNat = m + 1 := by omega
  have HPM := Lib.hid hpm
  have HS1 : Hid ((fun V => V.cell? ⟨lb, 7, none⟩ = some (.slice (some ⟨g, 0, none⟩) (m + 1) c)) ((W.alloc (.cells #[] 44)).drew)) := by
    show (W.alloc (.cells #[] 44)).cell? ⟨lb, 7, none⟩ = _
    rw [World.cell?_alloc_lt _ _ _ hlb]
    exact q0
  clear hl hin hown hRg hLg hBg hnc hsz htk hc hm hu hrdo
  go_enter Try.func35, Try.ntmps35
  go_upto_region 3 with (fail)
  have q0d : (fun V => V.cell? ⟨lb, 7, none⟩ = some (.slice (some ⟨g, 0, none⟩) (m + 1) c)) W.drew := q0
  refine region_anyL (fun V => V.cell? ⟨lb, 7, none⟩ = some (.slice (some ⟨g, 0, none⟩) (m + 1) c)) 25 (by kernel_rfl) ?_
  refine anyL_take (i := 0) (oi := { dst := some 28, op := Op.move (Operand.tmp 0), type := 47, pos := "ref.go:53", after := #[], guard := none }) (v := ?_) rfl (by kernel_rfl) (by kernel_rfl) (by kernel_rfl) (by kernel_rfl) (fun _ _ _ h => h) (Or.inl ⟨by rfl, ?_⟩) (q0d) ?_
  rotate_left
  · intro w hSw
    try dsimp only at hSw
    have q0 := hSw
    first | (go_simp <;> fail) | (go_simp; with_reducible rfl)
  try simp only [Act.put, List.setIfInBounds_toArray, List.set_cons_zero, List.set_cons_succ]
  refine anyL_take (i := 1) (oi := { dst := some 29, op := Op.move (Operand.tmp 1), type := 3, pos := "ref.go:53", after := #[], guard := none }) (v := ?_) rfl (by kernel_rfl) (by kernel_rfl) (by kernel_rfl) (by kernel_rfl) (fun _ _ _ h => h) (Or.inl ⟨by rfl, ?_⟩) (q0d) ?_
  rotate_left
  · intro w hSw
    try dsimp only at hSw
    have q0 := hSw
    first | (go_simp <;> fail) | (go_simp; with_reducible rfl)
  try simp only [Act.put, List.setIfInBounds_toArray, List.set_cons_zero, List.set_cons_succ]
  refine anyL_take (i := 3) (oi := { dst := some 31, op := Op.move (Operand.tmp 0), type := 47, pos := "ref.go:53", after := #[], guard := none }) (v := ?_) rfl (by kernel_rfl) (by kernel_rfl) (by kernel_rfl) (by kernel_rfl) (fun _ _ _ h => h) (Or.inl ⟨by rfl, ?_⟩) (q0d) ?_
  rotate_left
  · intro w hSw
    try dsimp only at hSw
    have q0 := hSw
    first | (go_simp <;> fail) | (go_simp; with_reducible rfl)
  try simp only [Act.put, List.setIfInBounds_toArray, List.set_cons_zero, List.set_cons_succ]
  refine anyL_take (i := 4) (oi := { dst := some 32, op := Op.move (Operand.tmp 1), type := 3, pos := "ref.go:53", after := #[], guard := none }) (v := ?_) rfl (by kernel_rfl) (by kernel_rfl) (by kernel_rfl) (by kernel_rfl) (fun _ _ _ h => h) (Or.inl ⟨by rfl, ?_⟩) (q0d) ?_
  rotate_left
  · intro w hSw
    try dsimp only at hSw
    have q0 := hSw
    first | (go_simp <;> fail) | (go_simp; with_reducible rfl)
  try simp only [Act.put, List.setIfInBounds_toArray, List.set_cons_zero, List.set_cons_succ]
  refine anyL_take (i := 5) (oi := { dst := some 33, op := Op.nilCheck (Operand.tmp 31), type := 0, pos := "ref.go:53", after := #[{ on := 3, ground := Ground.data }], guard := none }) (v := ?_) rfl (by kernel_rfl) (by kernel_rfl) (by kernel_rfl) (by kernel_rfl) (fun _ _ _ h => h) (Or.inl ⟨by rfl, ?_⟩) (q0d) ?_
  rotate_left
  · intro w hSw
    try dsimp only at hSw
    have q0 := hSw
    first | (go_simp <;> fail) | (go_simp; with_reducible rfl)
  try simp only [Act.put, List.setIfInBounds_toArray, List.set_cons_zero, List.set_cons_succ]
  refine anyL_take (i := 6) (oi := { dst := some 34, op := Op.fieldAddr 52 (Operand.tmp 33) 1, type := 0, pos := "ref.go:53", after := #[{ on := 5, ground := Ground.data }], guard := none }) (v := ?_) rfl (by kernel_rfl) (by kernel_rfl) (by kernel_rfl) (by kernel_rfl) (fun _ _ _ h => h) (Or.inl ⟨by rfl, ?_⟩) (q0d) ?_
  rotate_left
  · intro w hSw
    try dsimp only at hSw
    have q0 := hSw
    first | (go_simp <;> fail) | (go_simp; with_reducible rfl)
  try simp only [Act.put, List.setIfInBounds_toArray, List.set_cons_zero, List.set_cons_succ]
  refine anyL_take (i := 7) (oi := { dst := some 35, op := Op.indexAddr 49 (Operand.tmp 34) (Operand.tmp 32), type := 0, pos := "ref.go:53", after := #[{ on := 6, ground := Ground.data }, { on := 4, ground := Ground.data }], guard := none }) (v := ?_) rfl (by kernel_rfl) (by kernel_rfl) (by kernel_rfl) (by kernel_rfl) (fun _ _ _ h => h) (Or.inl ⟨by rfl, ?_⟩) (q0d) ?_
  rotate_left
  · intro w hSw
    try dsimp only at hSw
    have q0 := hSw
    first | (go_simp <;> fail) | (go_simp; with_reducible rfl)
  try simp only [Act.put, List.setIfInBounds_toArray, List.set_cons_zero, List.set_cons_succ]
  refine anyL_take (i := 8) (oi := { dst := some 36, op := Op.load 38 (Operand.tmp 35), type := 38, pos := "ref.go:53", after := #[{ on := 7, ground := Ground.data }], guard := none }) (v := ?_) rfl (by kernel_rfl) (by kernel_rfl) (by kernel_rfl) (by kernel_rfl) (fun _ _ _ h => h) (Or.inl ⟨by rfl, ?_⟩) (q0d) ?_
  rotate_left
  · intro w hSw
    try dsimp only at hSw
    have q0 := hSw
    first | (go_simp <;> fail) | (go_simp; with_reducible rfl)
  try simp only [Act.put, List.setIfInBounds_toArray, List.set_cons_zero, List.set_cons_succ]
  refine anyL_take (i := 9) (oi := { dst := some 37, op := Op.move (Operand.tmp 2), type := 3, pos := "ref.go:53", after := #[], guard := none }) (v := ?_) rfl (by kernel_rfl) (by kernel_rfl) (by kernel_rfl) (by kernel_rfl) (fun _ _ _ h => h) (Or.inl ⟨by rfl, ?_⟩) (q0d) ?_
  rotate_left
  · intro w hSw
    try dsimp only at hSw
    have q0 := hSw
    first | (go_simp <;> fail) | (go_simp; with_reducible rfl)
  try simp only [Act.put, List.setIfInBounds_toArray, List.set_cons_zero, List.set_cons_succ]
  refine anyL_take (i := 10) (oi := { dst := some 38, op := Op.slice 38 (Operand.tmp 36) none (some (Operand.tmp 37)) none, type := 38, pos := "ref.go:53", after := #[{ on := 8, ground := Ground.data }, { on := 9, ground := Ground.data }], guard := none }) (v := ?_) rfl (by kernel_rfl) (by kernel_rfl) (by kernel_rfl) (by kernel_rfl) (fun _ _ _ h => h) (Or.inl ⟨by rfl, ?_⟩) (q0d) ?_
  rotate_left
  · intro w hSw
    try dsimp only at hSw
    have q0 := hSw
    first | (go_simp <;> fail) | (go_simp; with_reducible rfl)
  try simp only [Act.put, List.setIfInBounds_toArray, List.set_cons_zero, List.set_cons_succ]
  refine anyL_take (i := 12) (oi := { dst := some 40, op := Op.move (Operand.tmp 0), type := 47, pos := "ref.go:53", after := #[], guard := none }) (v := ?_) rfl (by kernel_rfl) (by kernel_rfl) (by kernel_rfl) (by kernel_rfl) (fun _ _ _ h => h) (Or.inl ⟨by rfl, ?_⟩) (q0d) ?_
  rotate_left
  · intro w hSw
    try dsimp only at hSw
    have q0 := hSw
    first | (go_simp <;> fail) | (go_simp; with_reducible rfl)
  try simp only [Act.put, List.setIfInBounds_toArray, List.set_cons_zero, List.set_cons_succ]
  refine anyL_take (i := 13) (oi := { dst := some 41, op := Op.move (Operand.tmp 1), type := 3, pos := "ref.go:53", after := #[], guard := none }) (v := ?_) rfl (by kernel_rfl) (by kernel_rfl) (by kernel_rfl) (by kernel_rfl) (fun _ _ _ h => h) (Or.inl ⟨by rfl, ?_⟩) (q0d) ?_
  rotate_left
  · intro w hSw
    try dsimp only at hSw
    have q0 := hSw
    first | (go_simp <;> fail) | (go_simp; with_reducible rfl)
  try simp only [Act.put, List.setIfInBounds_toArray, List.set_cons_zero, List.set_cons_succ]
  refine anyL_take (i := 14) (oi := { dst := some 42, op := Op.nilCheck (Operand.tmp 40), type := 0, pos := "ref.go:53", after := #[{ on := 12, ground := Ground.data }], guard := none }) (v := ?_) rfl (by kernel_rfl) (by kernel_rfl) (by kernel_rfl) (by kernel_rfl) (fun _ _ _ h => h) (Or.inl ⟨by rfl, ?_⟩) (q0d) ?_
  rotate_left
  · intro w hSw
    try dsimp only at hSw
    have q0 := hSw
    first | (go_simp <;> fail) | (go_simp; with_reducible rfl)
  try simp only [Act.put, List.setIfInBounds_toArray, List.set_cons_zero, List.set_cons_succ]
  refine anyL_take (i := 15) (oi := { dst := some 43, op := Op.fieldAddr 52 (Operand.tmp 42) 1, type := 0, pos := "ref.go:53", after := #[{ on := 14, ground := Ground.data }], guard := none }) (v := ?_) rfl (by kernel_rfl) (by kernel_rfl) (by kernel_rfl) (by kernel_rfl) (fun _ _ _ h => h) (Or.inl ⟨by rfl, ?_⟩) (q0d) ?_
  rotate_left
  · intro w hSw
    try dsimp only at hSw
    have q0 := hSw
    first | (go_simp <;> fail) | (go_simp; with_reducible rfl)
  try simp only [Act.put, List.setIfInBounds_toArray, List.set_cons_zero, List.set_cons_succ]
  refine anyL_take (i := 16) (oi := { dst := some 44, op := Op.indexAddr 49 (Operand.tmp 43) (Operand.tmp 41), type := 0, pos := "ref.go:53", after := #[{ on := 15, ground := Ground.data }, { on := 13, ground := Ground.data }], guard := none }) (v := ?_) rfl (by kernel_rfl) (by kernel_rfl) (by kernel_rfl) (by kernel_rfl) (fun _ _ _ h => h) (Or.inl ⟨by rfl, ?_⟩) (q0d) ?_
  rotate_left
  · intro w hSw
    try dsimp only at hSw
    have q0 := hSw
    first | (go_simp <;> fail) | (go_simp; with_reducible rfl)
  try simp only [Act.put, List.setIfInBounds_toArray, List.set_cons_zero, List.set_cons_succ]
  refine anyL_take (i := 17) (oi := { dst := some 45, op := Op.load 38 (Operand.tmp 44), type := 38, pos := "ref.go:53", after := #[{ on := 16, ground := Ground.data }], guard := none }) (v := ?_) rfl (by kernel_rfl) (by kernel_rfl) (by kernel_rfl) (by kernel_rfl) (fun _ _ _ h => h) (Or.inl ⟨by rfl, ?_⟩) (q0d) ?_
  rotate_left
  · intro w hSw
    try dsimp only at hSw
    have q0 := hSw
    first | (go_simp <;> fail) | (go_simp; with_reducible rfl)
  try simp only [Act.put, List.setIfInBounds_toArray, List.set_cons_zero, List.set_cons_succ]
  refine anyL_take (i := 18) (oi := { dst := some 46, op := Op.move (Operand.tmp 2), type := 3, pos := "ref.go:53", after := #[], guard := none }) (v := ?_) rfl (by kernel_rfl) (by kernel_rfl) (by kernel_rfl) (by kernel_rfl) (fun _ _ _ h => h) (Or.inl ⟨by rfl, ?_⟩) (q0d) ?_
  rotate_left
  · intro w hSw
    try dsimp only at hSw
    have q0 := hSw
    first | (go_simp <;> fail) | (go_simp; with_reducible rfl)
  try simp only [Act.put, List.setIfInBounds_toArray, List.set_cons_zero, List.set_cons_succ]
  refine anyL_take (i := 19) (oi := { dst := some 47, op := Op.binOp BinOp.add 3 (Operand.tmp 46) (Operand.const (Value.int IntKind.i64 1)) 3, type := 3, pos := "ref.go:53", after := #[{ on := 18, ground := Ground.data }], guard := none }) (v := ?_) rfl (by kernel_rfl) (by kernel_rfl) (by kernel_rfl) (by kernel_rfl) (fun _ _ _ h => h) (Or.inl ⟨by rfl, ?_⟩) (q0d) ?_
  rotate_left
  · intro w hSw
    try dsimp only at hSw
    have q0 := hSw
    first | (go_simp <;> fail) | (go_simp; with_reducible rfl)
  try simp only [Act.put, List.setIfInBounds_toArray, List.set_cons_zero, List.set_cons_succ]
  refine anyL_take (i := 20) (oi := { dst := some 48, op := Op.slice 38 (Operand.tmp 45) (some (Operand.tmp 47)) none none, type := 38, pos := "ref.go:53", after := #[{ on := 17, ground := Ground.data }, { on := 19, ground := Ground.data }], guard := none }) (v := ?_) rfl (by kernel_rfl) (by kernel_rfl) (by kernel_rfl) (by kernel_rfl) (fun _ _ _ h => h) (Or.inl ⟨by rfl, ?_⟩) (q0d) ?_
  rotate_left
  · intro w hSw
    try dsimp only at hSw
    have q0 := hSw
    first | (go_simp <;> fail) | (go_simp; with_reducible rfl)
  try simp only [Act.put, List.setIfInBounds_toArray, List.set_cons_zero, List.set_cons_succ]
  refine anyL_takeC [23, 24] (i := 22) (oi := { dst := some 50, op := Op.nilCheck (Operand.tmp 28), type := 0, pos := "ref.go:53", after := #[{ on := 0, ground := Ground.data }], guard := none }) (v := ?_) rfl (by kernel_rfl) (by kernel_rfl) (by kernel_rfl) (by kernel_rfl) (by kernel_rfl) (fun _ _ _ h => h) (Or.inl ⟨by rfl, ?_⟩) (q0d) ?_
  rotate_left
  · intro w hSw
    try dsimp only at hSw
    have q0 := hSw
    first | (go_simp <;> fail) | (go_simp; with_reducible rfl)
  try simp only [Act.put, List.setIfInBounds_toArray, List.set_cons_zero, List.set_cons_succ]
  refine anyL_takeC [24] (i := 23) (oi := { dst := some 51, op := Op.fieldAddr 52 (Operand.tmp 50) 1, type := 0, pos := "ref.go:53", after := #[{ on := 22, ground := Ground.data }], guard := none }) (v := ?_) rfl (by kernel_rfl) (by kernel_rfl) (by kernel_rfl) (by kernel_rfl) (by kernel_rfl) (fun _ _ _ h => h) (Or.inl ⟨by rfl, ?_⟩) (q0d) ?_
  rotate_left
  · intro w hSw
    try dsimp only at hSw
    have q0 := hSw
    first | (go_simp <;> fail) | (go_simp; with_reducible rfl)
  try simp only [Act.put, List.setIfInBounds_toArray, List.set_cons_zero, List.set_cons_succ]
  refine anyL_one (i := 2) (o := { dst := some 30, op := Op.buildSlice 38 0 #[], type := 38, pos := "ref.go:53", after := #[], guard := none }) (by kernel_rfl) rfl (fun K hK => ?_)
  go_simp
  refine hK.out _ _ (fun _ => HS1.out) ?_
  clear hK K
  try simp only [Act.put, List.setIfInBounds_toArray, List.set_cons_zero, List.set_cons_succ]
  refine anyL_one (i := 11) (o := { dst := some 39, op := Op.call { callee := Callee.builtin Builtin.append, args := #[Operand.tmp 30, Operand.tmp 38], argTypes := #[38, 38] }, type := 38, pos := "ref.go:53", after := #[{ on := 2, ground := Ground.data }, { on := 10, ground := Ground.data }], guard := none }) (by kernel_rfl) rfl (fun K hK => ?_)
  refine step_append_rd _ rfl (.tmp 30) (.tmp 38) _ rfl W.heap.size 44 i0 _ 4 40 Try.underlying38 hinf hz0 hz1 hz2 rfl (by omega) _ 0 [] rfl HE.out.drew W.heap.size _ p c (frs ((st.u 1).take p)) rfl HRA.out.drew (frs_one _) (by unfold maxLen; omega) (by omega) (by show W.heap.size ≤ (W.alloc (.cells #[] 44)).heap.size; simp) ?_
  intro A1 c1 w1 h1 h2 hown1 hg1x hat1x
  have HX1 : Hid (Bel W.heap.size W w1) := Bel.grown (Bel.of (((Below.refl W.heap.size W).alloc (Nat.le_refl _) _).drew)) hg1x (fun k hk => Nat.le_of_eq (Option.some.inj hk))
  have HOW1 := Lib.hid hown1
  clear hown1 hg1x hat1x h1 h2
  have hlb1 := HX1.out.bk HBK.out
  have q0 : w1.cell? ⟨lb, 7, none⟩ = some (.slice (some ⟨g, 0, none⟩) (m + 1) c) := by rw [hlb1.cell, ← HR.out.1, ← HR.out.2.1, ← HR.out.2.2]; simp [lkCells]
  have hz9 := HX1.out.size
  have HRB1 : Hid (Rd w1 W.heap.size 4 (some A9) (m - p) (frs ((st.u 1).drop (p + 1)))) := HX1.out.rd HRB.out
  clear hlb1
  refine hK.out _ _ (fun _ => q0) ?_
  clear hK K
  try simp only [Act.put, List.setIfInBounds_toArray, List.set_cons_zero, List.set_cons_succ]
  refine anyL_one (i := 21) (o := { dst := some 49, op := Op.call { callee := Callee.builtin Builtin.append, args := #[Operand.tmp 39, Operand.tmp 48], argTypes := #[38, 38] }, type := 38, pos := "ref.go:53", after := #[{ on := 11, ground := Ground.data }, { on := 20, ground := Ground.data }, { on := 11, ground := Ground.chain }], guard := none }) (by kernel_rfl) rfl (fun K hK => ?_)
  refine step_append_rd _ rfl (.tmp 39) (.tmp 48) _ rfl W.heap.size 44 i0 _ 4 40 Try.underlying38 hinf hz0 hz1 hz2 rfl (by omega) _ (0 + p) ([] ++ frs ((st.u 1).take p)) rfl HOW1.out W.heap.size _ (m - p) (c - (p + 1)) (frs ((st.u 1).drop (p + 1))) rfl HRB1.out (frs_one _) (by unfold maxLen; omega) (by omega) (by omega) ?_
  intro A2 c2 w2 h1 h2 hown1 hg1x hat1x
  have HX2 : Hid (Bel W.heap.size W w2) := Bel.grown HX1.out hg1x (fun k hk => (HOW1.out.lt k hk).1)
  have HOW2 := Lib.hid hown1
  clear hown1 hg1x hat1x h1 h2
  have hlb1 := HX2.out.bk HBK.out
  have q0 : w2.cell? ⟨lb, 7, none⟩ = some (.slice (some ⟨g, 0, none⟩) (m + 1) c) := by rw [hlb1.cell, ← HR.out.1, ← HR.out.2.1, ← HR.out.2.2]; simp [lkCells]
  have z0 := hlb1.frozen 7
  have hlb := hlb1.lt
  clear hlb1
  refine hK.out _ _ (fun _ => q0) ?_
  clear hK K
  try simp only [Act.put, List.setIfInBounds_toArray, List.set_cons_zero, List.set_cons_succ]
  refine anyL_take (i := 24) (oi := { dst := some 52, op := Op.indexAddr 49 (Operand.tmp 51) (Operand.tmp 29), type := 0, pos := "ref.go:53", after := #[{ on := 23, ground := Ground.data }, { on := 1, ground := Ground.data }, { on := 0, ground := Ground.phase }, { on := 1, ground := Ground.phase }, { on := 2, ground := Ground.phase }, { on := 3, ground := Ground.phase }, { on := 4, ground := Ground.phase }, { on := 5, ground := Ground.phase }, { on := 6, ground := Ground.phase }, { on := 7, ground := Ground.phase }, { on := 8, ground := Ground.phase }, { on := 9, ground := Ground.phase }, { on := 10, ground := Ground.phase }, { on := 11, ground := Ground.phase }, { on := 12, ground := Ground.phase }, { on := 13, ground := Ground.phase }, { on := 14, ground := Ground.phase }, { on := 15, ground := Ground.phase }, { on := 16, ground := Ground.phase }, { on := 17, ground := Ground.phase }, { on := 18, ground := Ground.phase }, { on := 19, ground := Ground.phase }, { on := 20, ground := Ground.phase }, { on := 21, ground := Ground.phase }], guard := none }) (v := ?_) rfl (by kernel_rfl) (by kernel_rfl) (by kernel_rfl) (by kernel_rfl) (fun _ _ _ h => h) (Or.inl ⟨by rfl, ?_⟩) (q0) ?_
  rotate_left
  · intro w hSw
    try dsimp only at hSw
    have q0 := hSw
    first | (go_simp <;> fail) | (go_simp; with_reducible rfl)
  try simp only [Act.put, List.setIfInBounds_toArray, List.set_cons_zero, List.set_cons_succ]
  refine anyL_one (i := 25) (o := { dst := none, op := Op.store 38 (Operand.tmp 52) (Operand.tmp 49), type := 0, pos := "ref.go:53", after := #[{ on := 24, ground := Ground.data }, { on := 21, ground := Ground.data }, { on := 21, ground := Ground.chain }, { on := 0, ground := Ground.phase }, { on := 1, ground := Ground.phase }, { on := 2, ground := Ground.phase }, { on := 3, ground := Ground.phase }, { on := 4, ground := Ground.phase }, { on := 5, ground := Ground.phase }, { on := 6, ground := Ground.phase }, { on := 7, ground := Ground.phase }, { on := 8, ground := Ground.phase }, { on := 9, ground := Ground.phase }, { on := 10, ground := Ground.phase }, { on := 11, ground := Ground.phase }, { on := 12, ground := Ground.phase }, { on := 13, ground := Ground.phase }, { on := 14, ground := Ground.phase }, { on := 15, ground := Ground.phase }, { on := 16, ground := Ground.phase }, { on := 17, ground := Ground.phase }, { on := 18, ground := Ground.phase }, { on := 19, ground := Ground.phase }, { on := 20, ground := Ground.phase }, { on := 21, ground := Ground.phase }], guard := none }) (by kernel_rfl) rfl (fun K hK => ?_)
  go_simp
  refine hK.out _ _ (fun h0 => absurd rfl h0) ?_
  clear hK K
  try simp only [Act.put, List.setIfInBounds_toArray, List.set_cons_zero, List.set_cons_succ]
  refine anyL_done (by kernel_rfl) ?_ _
  have e0 : 0 + p + (m - p) = m := by omega
  have hwl := without_len HR.out.2.1 HPM.out
  have hbkN : Bk (w2.setCell ⟨lb, 7, none⟩ (.slice A2 (0 + p + (m - p)) c2)) lb 52 (lkCells (st.setU 1 (without (st.u 1) p)) (upd R 3 A2) (upd C 3 c2)) := by
    have h := (HX2.out.bk HBK.out).set 7 (.slice A2 (0 + p + (m - p)) c2)
    rw [e0] at h ⊢
    have e : (lkCells st R C).setIfInBounds 7 (.slice A2 m c2) = lkCells (st.setU 1 (without (st.u 1) p)) (upd R 3 A2) (upd C 3 c2) := by simp [lkCells, Lk.setU, upd, hwl]
    rwa [e] at h
  have hlt2 : ∀ q, A2 = some q → W.heap.size ≤ q.block := fun q hq => (own_lt HOW2.out q hq).1
  have hres := LinkAt.row (st' := st.setU 1 (without (st.u 1) p)) (j := 3) (W' := w2.setCell ⟨lb, 7, none⟩ (.slice A2 (0 + p + (m - p)) c2)) HL0.out (by omega) (fun i hi hne => by
    have h6 : i = 0 ∨ i = 1 ∨ i = 2 ∨ i = 3 ∨ i = 4 ∨ i = 5 := by omega
    rcases h6 with rfl | rfl | rfl | rfl | rfl | rfl <;> first | exact absurd rfl hne | simp [rowLn, rowXs, Lk.setU, upd]) hbkN
    (by
      have h : w2.ownsRow W.heap.size 44 4 (.slice A2 m c2) m (frs (without (st.u 1) p)) := by
        have h := HOW2.out
        rw [e0, List.nil_append, ← frs_append] at h
        exact h
      show World.ownsRow _ L 44 4 (.slice A2 (upd st.u 1 (without (st.u 1) p) 1).length c2) (upd st.u 1 (without (st.u 1) p) 1).length (frs (upd st.u 1 (without (st.u 1) p) 1))
      rw [upd_same, hwl]
      exact own_keep (own_mono h hLW) fun q hq => Below.heap_setCell w2 ⟨lb, 7, none⟩ _ q.block (by have := hlt2 q hq; have := HL0.out.bk.lt; dsimp only; omega))
    (fun b hb hlbn _ => (Below.heap_setCell w2 ⟨lb, 7, none⟩ _ b hlbn).trans (HX2.out.block b hb)) (fun q hq => .inr (hlt2 q hq)) HX2.out.os HX2.out.tape HX2.out.output (by simpa [World.setCell] using HX2.out.size)
  rw [Nat.zero_add] at hres
  have HRES := Lib.hid hres
  clear hres hbkN hlt2 e0 hwl hA9 z0 hlb q0 q0d
  go_wp2
  go_ret
  exact ⟨rfl, _, _, HRES.out.1, HRES.out.2⟩

end Go.Proofs.Ytnbndhmdfheikaa.D
