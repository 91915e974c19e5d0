/- Walks of Send and Tick, at each end. By gen_ls.py. -/
import Derived.Test.YtnbndhmdfheikaaLP
namespace Go.Proofs.Ytnbndhmdfheikaa
open Go.RowKit

/-- An end is another, its row new. -/
theorem LinkAt.end0 {L lb : Nat} {st : Lk} {R : Nat → Option Addr} {C : Nat → Nat} {W V : World} {s' : Sd} {A' : Option Addr} {c' : Nat} (h : LinkAt L lb st R C W) (hLW : L ≤ W.heap.size) (hb : Below W.heap.size W V)
    (hown : V.ownsRow W.heap.size 9 1 (.slice A' s'.sent.length c') s'.sent.length (s'.sent.map Value.string)) :
    LinkAt L lb (st.setE 0 s') (upd R 0 A') (upd C 0 c') (((V.setCell ⟨lb, 0, none⟩ (.slice A' s'.sent.length c')).setCell ⟨lb, 1, none⟩ (.int .i64 s'.taken)).setCell ⟨lb, 2, none⟩ (.int .i64 s'.known)) ∧
    Kept lb R (upd R 0 A') W (((V.setCell ⟨lb, 0, none⟩ (.slice A' s'.sent.length c')).setCell ⟨lb, 1, none⟩ (.int .i64 s'.taken)).setCell ⟨lb, 2, none⟩ (.int .i64 s'.known)) := by
  have hbk : Bk V lb 58 (lkCells st R C) := h.bk.below hb h.bk.lt
  have hfar : ∀ b, b ≠ lb → (((V.setCell ⟨lb, 0, none⟩ (.slice A' s'.sent.length c')).setCell ⟨lb, 1, none⟩ (.int .i64 s'.taken)).setCell ⟨lb, 2, none⟩ (.int .i64 s'.known)).heap[b]? = V.heap[b]? := fun b hne =>
    (Below.heap_setCell _ ⟨lb, 2, none⟩ _ b hne).trans ((Below.heap_setCell _ ⟨lb, 1, none⟩ _ b hne).trans (Below.heap_setCell _ ⟨lb, 0, none⟩ _ b hne))
  refine h.row (by omega) (fun i hi hne => by
    have h6 : i = 0 ∨ i = 1 ∨ i = 2 ∨ i = 3 ∨ i = 4 ∨ i = 5 := by omega
    rcases h6 with rfl | rfl | rfl | rfl | rfl | rfl <;> first | exact absurd rfl hne | simp [rowLn, rowXs, Lk.setE, upd]) ?_ ?_ (fun b hb' hlb _ => (hfar b hlb).trans (hb.block b hb')) (fun p hp => ?_) hb.os hb.tape hb.output (by simpa [World.setCell] using hb.size)
  · have h3 := ((hbk.set 0 (.slice A' s'.sent.length c')).set 1 (.int .i64 s'.taken)).set 2 (.int .i64 s'.known)
    have e : (((lkCells st R C).setIfInBounds 0 (.slice A' s'.sent.length c')).setIfInBounds 1 (.int .i64 s'.taken)).setIfInBounds 2 (.int .i64 s'.known) = lkCells (st.setE 0 s') (upd R 0 A') (upd C 0 c') := by simp [lkCells, Lk.setE, upd]
    rwa [e] at h3
  · have ho := own_mono hown hLW
    refine own_keep (by simpa [rowTy, rowSz, rowLn, rowXs, Lk.setE, upd] using ho) fun p hp => hfar p.block ?_
    have := (own_lt hown p hp).1
    have := h.bk.lt
    omega
  · exact .inr (own_lt hown p hp).1

/-- An end is another, its row new. -/
theorem LinkAt.end1 {L lb : Nat} {st : Lk} {R : Nat → Option Addr} {C : Nat → Nat} {W V : World} {s' : Sd} {A' : Option Addr} {c' : Nat} (h : LinkAt L lb st R C W) (hLW : L ≤ W.heap.size) (hb : Below W.heap.size W V)
    (hown : V.ownsRow W.heap.size 9 1 (.slice A' s'.sent.length c') s'.sent.length (s'.sent.map Value.string)) :
    LinkAt L lb (st.setE 1 s') (upd R 1 A') (upd C 1 c') (((V.setCell ⟨lb, 3, none⟩ (.slice A' s'.sent.length c')).setCell ⟨lb, 4, none⟩ (.int .i64 s'.taken)).setCell ⟨lb, 5, none⟩ (.int .i64 s'.known)) ∧
    Kept lb R (upd R 1 A') W (((V.setCell ⟨lb, 3, none⟩ (.slice A' s'.sent.length c')).setCell ⟨lb, 4, none⟩ (.int .i64 s'.taken)).setCell ⟨lb, 5, none⟩ (.int .i64 s'.known)) := by
  have hbk : Bk V lb 58 (lkCells st R C) := h.bk.below hb h.bk.lt
  have hfar : ∀ b, b ≠ lb → (((V.setCell ⟨lb, 3, none⟩ (.slice A' s'.sent.length c')).setCell ⟨lb, 4, none⟩ (.int .i64 s'.taken)).setCell ⟨lb, 5, none⟩ (.int .i64 s'.known)).heap[b]? = V.heap[b]? := fun b hne =>
    (Below.heap_setCell _ ⟨lb, 5, none⟩ _ b hne).trans ((Below.heap_setCell _ ⟨lb, 4, none⟩ _ b hne).trans (Below.heap_setCell _ ⟨lb, 3, none⟩ _ b hne))
  refine h.row (by omega) (fun i hi hne => by
    have h6 : i = 0 ∨ i = 1 ∨ i = 2 ∨ i = 3 ∨ i = 4 ∨ i = 5 := by omega
    rcases h6 with rfl | rfl | rfl | rfl | rfl | rfl <;> first | exact absurd rfl hne | simp [rowLn, rowXs, Lk.setE, upd]) ?_ ?_ (fun b hb' hlb _ => (hfar b hlb).trans (hb.block b hb')) (fun p hp => ?_) hb.os hb.tape hb.output (by simpa [World.setCell] using hb.size)
  · have h3 := ((hbk.set 3 (.slice A' s'.sent.length c')).set 4 (.int .i64 s'.taken)).set 5 (.int .i64 s'.known)
    have e : (((lkCells st R C).setIfInBounds 3 (.slice A' s'.sent.length c')).setIfInBounds 4 (.int .i64 s'.taken)).setIfInBounds 5 (.int .i64 s'.known) = lkCells (st.setE 1 s') (upd R 1 A') (upd C 1 c') := by simp [lkCells, Lk.setE, upd]
    rwa [e] at h3
  · have ho := own_mono hown hLW
    refine own_keep (by simpa [rowTy, rowSz, rowLn, rowXs, Lk.setE, upd] using ho) fun p hp => hfar p.block ?_
    have := (own_lt hown p hp).1
    have := h.bk.lt
    omega
  · exact .inr (own_lt hown p hp).1

/-- What Send makes of the link. -/
def sendK (st : Lk) (who : Nat) (m : ByteArray) : Lk × Int :=
  if (sendS (st.e who) m).e = 0 then ((st.setE who (sendS (st.e who) m).s).setU (1 - who) (putU (st.u (1 - who)) [(sendS (st.e who) m).f]), 0) else (st, (sendS (st.e who) m).e)
def tickK (st : Lk) (who : Nat) : Lk × Int := if goodB (st.e who) = true then (st.setU (1 - who) (putU (st.u (1 - who)) [tickF (st.e who)]), 0) else (st, 1)

set_option maxHeartbeats 8000000 in
set_option maxRecDepth 100000 in
theorem send_0 (L lb : Nat) (st : Lk) (R : Nat → Option Addr) (C : Nat → Nat) (W : World) (m : ByteArray) (hl : LinkAt L lb st R C W) (hu : (st.u 1).length ≤ 4096) (hLW : L ≤ W.heap.size) (hs : (st.e 0).sent.length ≤ maxLen) :
    Calls Try.prog 14 #[.pointer (some ⟨lb, 0, none⟩), .int .i64 0, .string m] W fun e W' => e = .returned (.int .i64 (sendK st 0 m).2) ∧ LOut L lb R W (sendK st 0 m).1 W' := by
  have HL0 := Lib.hid hl
  have hown : W.ownsRow L 9 1 (.slice (R 0) (st.e 0).sent.length (C 0)) (st.e 0).sent.length ((st.e 0).sent.map Value.string) := by simpa [rowTy, rowSz, rowLn, rowXs] using hl.own 0 (by omega)
  have hsend := send_any (R 0) (st.e 0).sent.length (C 0) (st.e 0) m W hs (Rd.of_own hown)
  obtain ⟨rr, hrr⟩ : ∃ rr, rr = sendS (st.e 0) m := ⟨_, rfl⟩
  rw [← hrr] at hsend
  have HSK : Hid (sendK st 0 m = if rr.e = 0 then ((st.setE 0 rr.s).setU 1 (putU (st.u 1) [rr.f]), 0) else (st, rr.e)) := by rw [hrr]; rfl
  obtain ⟨rs, ⟨fk, fn, ft, fb⟩, er⟩ := rr
  dsimp only at HSK
  unfold sideVal at hsend
  have HSEND := Lib.hid hsend
  have c0 : W.cell? ⟨lb, 0, none⟩ = some (.slice (R 0) (st.e 0).sent.length (C 0)) := by rw [hl.bk.cell]; simp [lkCells]
  have c1 : W.cell? ⟨lb, 1, none⟩ = some (.int .i64 (st.e 0).taken) := by rw [hl.bk.cell]; simp [lkCells]
  have c2 : W.cell? ⟨lb, 2, none⟩ = some (.int .i64 (st.e 0).known) := by rw [hl.bk.cell]; simp [lkCells]
  have hlb := hl.bk.lt
  clear hl hown hsend hrr
  go_enter Try.func14, Try.ntmps14
  go_wp2_with fail
  refine (end_any lb 0 W).mono ?_
  rintro e w' ⟨rfl, hw'⟩
  rw [hw']
  clear hw' w'
  rw [decide_eq_true (by omega)]
  go_wp2_with fail
  refine HSEND.out.mono ?_
  rintro e w1 ⟨A1, d1, rfl, hd1, hm1, ho1, hb1⟩
  dsimp only at hd1 ho1
  have HO1 := Lib.hid ho1
  have HB1 := Lib.hid hb1
  clear hd1 hm1 ho1 hb1 c0 c1 c2
  obtain ⟨V, hV⟩ : ∃ V, V = (w1.alloc (.cells #[.slice A1 rs.sent.length d1, .int .i64 rs.taken, .int .i64 rs.known] 33)).alloc (.cells #[.int .i64 fk, .int .i64 fn, .int .i64 ft, .string fb] 44) := ⟨_, rfl⟩
  obtain ⟨bs, hbs⟩ : ∃ bs, bs = w1.heap.size := ⟨_, rfl⟩
  have HBS : Hid (Bk V bs 33 #[.slice A1 rs.sent.length d1, .int .i64 rs.taken, .int .i64 rs.known]) := by rw [hV, hbs]; exact (Bk.new w1 _ _).alloc _
  have HBF : Hid (Bk V (bs + 1) 44 #[.int .i64 fk, .int .i64 fn, .int .i64 ft, .string fb]) := by
    rw [hV, hbs]
    have := Bk.new (w1.alloc (.cells #[.slice A1 rs.sent.length d1, .int .i64 rs.taken, .int .i64 rs.known] 33)) 44 #[.int .i64 fk, .int .i64 fn, .int .i64 ft, .string fb]
    rw [show (w1.alloc (.cells #[.slice A1 rs.sent.length d1, .int .i64 rs.taken, .int .i64 rs.known] 33)).heap.size = w1.heap.size + 1 by simp] at this
    exact Lib.hid this
  have HBV : Hid (Below W.heap.size W V) := by rw [hV]; exact (HB1.out.alloc HB1.out.size _).alloc (by have := HB1.out.size; simp; omega) _
  have HOV : Hid (V.ownsRow W.heap.size 9 1 (.slice A1 rs.sent.length d1) rs.sent.length (rs.sent.map Value.string)) := by rw [hV]; exact (HO1.out.alloc _).alloc _
  have hbsW : W.heap.size ≤ bs := by rw [hbs]; exact HB1.out.size
  unfold sideVal Fr.val
  go_upto_region 4 with (fail)
  have hbs1 : w1.heap.size + 1 = bs + 1 := by rw [hbs]
  rw [← hV, hbs1, ← hbs]
  clear hV hbs hbs1 HO1 HB1
  by_cases her : er = 0
  case neg =>
    have hne : (er != 0) = true := by simpa using her
    have hne2 : (er == 0) = false := by simpa using her
    have hsk := HSK.out
    rw [if_neg her] at hsk
    have HSK1 := Lib.hid hsk
    clear hsk her
    go_wp2
    go_ret
    rw [HSK1.out]
    exact ⟨rfl, R, C, HL0.out.over HBV.out, Kept.of_below _ _ HBV.out⟩
  subst her
  have hsk := HSK.out
  rw [if_pos rfl] at hsk
  have HSK1 := Lib.hid hsk
  clear hsk HSK
  have HBL := Lib.hid (HL0.out.bk.below HBV.out HL0.out.bk.lt)
  obtain ⟨x0, x1, x2, z0, z1, z2, hxg⟩ := HBS.out.three
  have y0 : V.cell? ⟨lb, 0, none⟩ = some (.slice (R 0) (st.e 0).sent.length (C 0)) := by rw [HBL.out.cell]; simp [lkCells]
  have y1 : V.cell? ⟨lb, 1, none⟩ = some (.int .i64 (st.e 0).taken) := by rw [HBL.out.cell]; simp [lkCells]
  have y2 : V.cell? ⟨lb, 2, none⟩ = some (.int .i64 (st.e 0).known) := by rw [HBL.out.cell]; simp [lkCells]
  have u0 := HBL.out.frozen 0
  have u1 := HBL.out.frozen 1
  have u2 := HBL.out.frozen 2
  have hlv := HBL.out.lt
  have HS0 : Hid ((fun V => V.cell? ⟨bs, 0, none⟩ = some (.slice A1 rs.sent.length d1) ∧ V.cell? ⟨bs, 1, none⟩ = some (.int .i64 rs.taken) ∧ V.cell? ⟨bs, 2, none⟩ = some (.int .i64 rs.known)) V.drew) := ⟨x0, x1, x2⟩
  go_upto_region 6 with (fail)
  refine region_anyL (fun V => V.cell? ⟨bs, 0, none⟩ = some (.slice A1 rs.sent.length d1) ∧ V.cell? ⟨bs, 1, none⟩ = some (.int .i64 rs.taken) ∧ V.cell? ⟨bs, 2, none⟩ = some (.int .i64 rs.known)) 6 (by kernel_rfl) ?_
  refine anyL_take (i := 0) (oi := { dst := some 29, op := Op.move (Operand.tmp 0), type := 24, pos := "link.go:68", after := #[], guard := none }) (v := ?_) rfl (by kernel_rfl) (by kernel_rfl) (by kernel_rfl) (by kernel_rfl) (fun _ _ _ h => h) (Or.inl ⟨by rfl, ?_⟩) (HS0.out) ?_
  rotate_left
  · intro w hSw
    try dsimp only at hSw
    obtain ⟨q0, q1, q2⟩ := hSw
    first | (go_simp <;> fail) | (go_simp; with_reducible rfl)
  try simp only [Act.put, List.setIfInBounds_toArray, List.set_cons_zero, List.set_cons_succ]
  refine anyL_take (i := 1) (oi := { dst := some 30, op := Op.move (Operand.tmp 1), type := 3, pos := "link.go:68", after := #[], guard := none }) (v := ?_) rfl (by kernel_rfl) (by kernel_rfl) (by kernel_rfl) (by kernel_rfl) (fun _ _ _ h => h) (Or.inl ⟨by rfl, ?_⟩) (HS0.out) ?_
  rotate_left
  · intro w hSw
    try dsimp only at hSw
    obtain ⟨q0, q1, q2⟩ := hSw
    first | (go_simp <;> fail) | (go_simp; with_reducible rfl)
  try simp only [Act.put, List.setIfInBounds_toArray, List.set_cons_zero, List.set_cons_succ]
  refine anyL_take (i := 2) (oi := { dst := some 31, op := Op.load 33 (Operand.tmp 7), type := 33, pos := "link.go:68", after := #[], guard := none }) (v := ?_) rfl (by kernel_rfl) (by kernel_rfl) (by kernel_rfl) (by kernel_rfl) (fun _ _ _ h => h) (Or.inl ⟨by rfl, ?_⟩) (HS0.out) ?_
  rotate_left
  · intro w hSw
    try dsimp only at hSw
    obtain ⟨q0, q1, q2⟩ := hSw
    first | (go_simp <;> fail) | (go_simp; with_reducible rfl)
  try simp only [Act.put, List.setIfInBounds_toArray, List.set_cons_zero, List.set_cons_succ]
  refine anyL_takeC [4, 5] (i := 3) (oi := { dst := some 32, op := Op.nilCheck (Operand.tmp 29), type := 0, pos := "link.go:68", after := #[{ on := 0, ground := Ground.data }], guard := none }) (v := ?_) rfl (by kernel_rfl) (by kernel_rfl) (by kernel_rfl) (by kernel_rfl) (by kernel_rfl) (fun _ _ _ h => h) (Or.inl ⟨by rfl, ?_⟩) (HS0.out) ?_
  rotate_left
  · intro w hSw
    try dsimp only at hSw
    obtain ⟨q0, q1, q2⟩ := hSw
    first | (go_simp <;> fail) | (go_simp; with_reducible rfl)
  try simp only [Act.put, List.setIfInBounds_toArray, List.set_cons_zero, List.set_cons_succ]
  refine anyL_takeC [5] (i := 4) (oi := { dst := some 33, op := Op.fieldAddr 58 (Operand.tmp 32) 0, type := 0, pos := "link.go:68", after := #[{ on := 3, ground := Ground.data }], guard := none }) (v := ?_) rfl (by kernel_rfl) (by kernel_rfl) (by kernel_rfl) (by kernel_rfl) (by kernel_rfl) (fun _ _ _ h => h) (Or.inl ⟨by rfl, ?_⟩) (HS0.out) ?_
  rotate_left
  · intro w hSw
    try dsimp only at hSw
    obtain ⟨q0, q1, q2⟩ := hSw
    first | (go_simp <;> fail) | (go_simp; with_reducible rfl)
  try simp only [Act.put, List.setIfInBounds_toArray, List.set_cons_zero, List.set_cons_succ]
  refine anyL_take (i := 5) (oi := { dst := some 34, op := Op.indexAddr 48 (Operand.tmp 33) (Operand.tmp 30), type := 0, pos := "link.go:68", after := #[{ on := 4, ground := Ground.data }, { on := 1, ground := Ground.data }, { on := 0, ground := Ground.phase }, { on := 1, ground := Ground.phase }, { on := 2, ground := Ground.phase }], guard := none }) (v := ?_) rfl (by kernel_rfl) (by kernel_rfl) (by kernel_rfl) (by kernel_rfl) (fun _ _ _ h => h) (Or.inl ⟨by rfl, ?_⟩) (HS0.out) ?_
  rotate_left
  · intro w hSw
    try dsimp only at hSw
    obtain ⟨q0, q1, q2⟩ := hSw
    first | (go_simp <;> fail) | (go_simp; with_reducible rfl)
  try simp only [Act.put, List.setIfInBounds_toArray, List.set_cons_zero, List.set_cons_succ]
  refine anyL_one (i := 6) (o := { dst := none, op := Op.store 33 (Operand.tmp 34) (Operand.tmp 31), type := 0, pos := "link.go:68", after := #[{ on := 5, ground := Ground.data }, { on := 2, ground := Ground.data }, { on := 0, ground := Ground.phase }, { on := 1, ground := Ground.phase }, { on := 2, ground := Ground.phase }], guard := none }) (by kernel_rfl) rfl (fun K hK => ?_)
  go_simp
  refine hK.out _ _ (fun h0 => absurd rfl h0) ?_
  clear hK K
  try simp only [Act.put, List.setIfInBounds_toArray, List.set_cons_zero, List.set_cons_succ]
  refine anyL_done (by kernel_rfl) ?_ _
  obtain ⟨V2, hV2⟩ : ∃ V2, V2 = (((V.setCell ⟨lb, 0, none⟩ (.slice A1 rs.sent.length d1)).setCell ⟨lb, 1, none⟩ (.int .i64 rs.taken)).setCell ⟨lb, 2, none⟩ (.int .i64 rs.known)).drew := ⟨_, rfl⟩
  have hres0 := LinkAt.end0 (s' := rs) (V := V) HL0.out hLW HBV.out HOV.out
  have hres := And.intro hres0.1.drew (hres0.2.trans (Kept.of_below _ _ ((Below.refl _ _).drew)))
  rw [← hV2] at hres
  clear hres0
  have HRES := Lib.hid hres
  have hbflb : bs + 1 ≠ lb := by have := HL0.out.bk.lt; omega
  have HBF2 : Hid (Bk V2 (bs + 1) 44 #[.int .i64 fk, .int .i64 fn, .int .i64 ft, .string fb]) := by rw [hV2]; exact (((HBF.out.far (p := ⟨lb, 0, none⟩) hbflb _).far (p := ⟨lb, 1, none⟩) hbflb _).far (p := ⟨lb, 2, none⟩) hbflb _).drew
  rw [← hV2]
  clear hV2 hres x0 x1 x2 z0 z1 z2 hxg y0 y1 y2 u0 u1 u2 hlv hbflb
  obtain ⟨x0, x1, x2, x3, z0, z1, z2, z3, hxg⟩ := HBF2.out.four
  obtain ⟨V3, hV3⟩ : ∃ V3, V3 = V2.alloc (.cells #[.int .i64 fk, .int .i64 fn, .int .i64 ft, .string fb] 44) := ⟨_, rfl⟩
  obtain ⟨bl, hbl⟩ : ∃ bl, bl = V2.heap.size := ⟨_, rfl⟩
  have hB3 : Bk V3 bl 44 #[.int .i64 fk, .int .i64 fn, .int .i64 ft, .string fb] := by rw [hV3, hbl]; exact Bk.new _ _ _
  have hLA3 : LinkAt L lb (st.setE 0 rs) (upd R 0 A1) (upd C 0 d1) V3 := by rw [hV3]; exact HRES.out.1.alloc _
  have HKE3 : Hid (Kept lb R (upd R 0 A1) W V3) := by rw [hV3]; exact HRES.out.2.trans (Kept.of_below _ _ ((Below.refl _ V2).alloc (Nat.le_refl _) _))
  have hput := put_1 L lb (st.setE 0 rs) (upd R 0 A1) (upd C 0 d1) V3 (some ⟨bl, 0, none⟩) 1 1 [⟨fk, fn, ft, fb⟩] hLA3 hu (Nat.le_trans hLW HKE3.out.size) (by unfold maxLen; omega) ⟨rfl, fun _ => ⟨_, rfl, hB3.lt, World.news_of_block hB3⟩⟩
    (fun p hp hi => by injection hp with hp; subst hp; have h1 := (HRES.out.1.blocks _ hi).2; dsimp only at h1; omega)
  have HPUT := Lib.hid hput
  clear hput hB3 hLA3
  go_wp2_with fail
  rw [← hV3, ← hbl]
  clear hV3 hbl
  refine HPUT.out.mono ?_
  rintro e w4 ⟨rfl, R4, C4, hla4, hke4⟩
  have HLA4 := Lib.hid hla4
  have HKE4 := Lib.hid hke4
  clear hla4 hke4 x0 x1 x2 x3 z0 z1 z2 z3 hxg
  go_wp2
  go_ret
  rw [HSK1.out]
  exact ⟨rfl, R4, C4, HLA4.out, HKE3.out.trans HKE4.out⟩

set_option maxHeartbeats 8000000 in
set_option maxRecDepth 100000 in
theorem send_1 (L lb : Nat) (st : Lk) (R : Nat → Option Addr) (C : Nat → Nat) (W : World) (m : ByteArray) (hl : LinkAt L lb st R C W) (hu : (st.u 0).length ≤ 4096) (hLW : L ≤ W.heap.size) (hs : (st.e 1).sent.length ≤ maxLen) :
    Calls Try.prog 14 #[.pointer (some ⟨lb, 0, none⟩), .int .i64 1, .string m] W fun e W' => e = .returned (.int .i64 (sendK st 1 m).2) ∧ LOut L lb R W (sendK st 1 m).1 W' := by
  have HL0 := Lib.hid hl
  have hown : W.ownsRow L 9 1 (.slice (R 1) (st.e 1).sent.length (C 1)) (st.e 1).sent.length ((st.e 1).sent.map Value.string) := by simpa [rowTy, rowSz, rowLn, rowXs] using hl.own 1 (by omega)
  have hsend := send_any (R 1) (st.e 1).sent.length (C 1) (st.e 1) m W hs (Rd.of_own hown)
  obtain ⟨rr, hrr⟩ : ∃ rr, rr = sendS (st.e 1) m := ⟨_, rfl⟩
  rw [← hrr] at hsend
  have HSK : Hid (sendK st 1 m = if rr.e = 0 then ((st.setE 1 rr.s).setU 0 (putU (st.u 0) [rr.f]), 0) else (st, rr.e)) := by rw [hrr]; rfl
  obtain ⟨rs, ⟨fk, fn, ft, fb⟩, er⟩ := rr
  dsimp only at HSK
  unfold sideVal at hsend
  have HSEND := Lib.hid hsend
  have c0 : W.cell? ⟨lb, 3, none⟩ = some (.slice (R 1) (st.e 1).sent.length (C 1)) := by rw [hl.bk.cell]; simp [lkCells]
  have c1 : W.cell? ⟨lb, 4, none⟩ = some (.int .i64 (st.e 1).taken) := by rw [hl.bk.cell]; simp [lkCells]
  have c2 : W.cell? ⟨lb, 5, none⟩ = some (.int .i64 (st.e 1).known) := by rw [hl.bk.cell]; simp [lkCells]
  have hlb := hl.bk.lt
  clear hl hown hsend hrr
  go_enter Try.func14, Try.ntmps14
  go_wp2_with fail
  refine (end_any lb 1 W).mono ?_
  rintro e w' ⟨rfl, hw'⟩
  rw [hw']
  clear hw' w'
  rw [decide_eq_true (by omega)]
  go_wp2_with fail
  refine HSEND.out.mono ?_
  rintro e w1 ⟨A1, d1, rfl, hd1, hm1, ho1, hb1⟩
  dsimp only at hd1 ho1
  have HO1 := Lib.hid ho1
  have HB1 := Lib.hid hb1
  clear hd1 hm1 ho1 hb1 c0 c1 c2
  obtain ⟨V, hV⟩ : ∃ V, V = (w1.alloc (.cells #[.slice A1 rs.sent.length d1, .int .i64 rs.taken, .int .i64 rs.known] 33)).alloc (.cells #[.int .i64 fk, .int .i64 fn, .int .i64 ft, .string fb] 44) := ⟨_, rfl⟩
  obtain ⟨bs, hbs⟩ : ∃ bs, bs = w1.heap.size := ⟨_, rfl⟩
  have HBS : Hid (Bk V bs 33 #[.slice A1 rs.sent.length d1, .int .i64 rs.taken, .int .i64 rs.known]) := by rw [hV, hbs]; exact (Bk.new w1 _ _).alloc _
  have HBF : Hid (Bk V (bs + 1) 44 #[.int .i64 fk, .int .i64 fn, .int .i64 ft, .string fb]) := by
    rw [hV, hbs]
    have := Bk.new (w1.alloc (.cells #[.slice A1 rs.sent.length d1, .int .i64 rs.taken, .int .i64 rs.known] 33)) 44 #[.int .i64 fk, .int .i64 fn, .int .i64 ft, .string fb]
    rw [show (w1.alloc (.cells #[.slice A1 rs.sent.length d1, .int .i64 rs.taken, .int .i64 rs.known] 33)).heap.size = w1.heap.size + 1 by simp] at this
    exact Lib.hid this
  have HBV : Hid (Below W.heap.size W V) := by rw [hV]; exact (HB1.out.alloc HB1.out.size _).alloc (by have := HB1.out.size; simp; omega) _
  have HOV : Hid (V.ownsRow W.heap.size 9 1 (.slice A1 rs.sent.length d1) rs.sent.length (rs.sent.map Value.string)) := by rw [hV]; exact (HO1.out.alloc _).alloc _
  have hbsW : W.heap.size ≤ bs := by rw [hbs]; exact HB1.out.size
  unfold sideVal Fr.val
  go_upto_region 4 with (fail)
  have hbs1 : w1.heap.size + 1 = bs + 1 := by rw [hbs]
  rw [← hV, hbs1, ← hbs]
  clear hV hbs hbs1 HO1 HB1
  by_cases her : er = 0
  case neg =>
    have hne : (er != 0) = true := by simpa using her
    have hne2 : (er == 0) = false := by simpa using her
    have hsk := HSK.out
    rw [if_neg her] at hsk
    have HSK1 := Lib.hid hsk
    clear hsk her
    go_wp2
    go_ret
    rw [HSK1.out]
    exact ⟨rfl, R, C, HL0.out.over HBV.out, Kept.of_below _ _ HBV.out⟩
  subst her
  have hsk := HSK.out
  rw [if_pos rfl] at hsk
  have HSK1 := Lib.hid hsk
  clear hsk HSK
  have HBL := Lib.hid (HL0.out.bk.below HBV.out HL0.out.bk.lt)
  obtain ⟨x0, x1, x2, z0, z1, z2, hxg⟩ := HBS.out.three
  have y0 : V.cell? ⟨lb, 3, none⟩ = some (.slice (R 1) (st.e 1).sent.length (C 1)) := by rw [HBL.out.cell]; simp [lkCells]
  have y1 : V.cell? ⟨lb, 4, none⟩ = some (.int .i64 (st.e 1).taken) := by rw [HBL.out.cell]; simp [lkCells]
  have y2 : V.cell? ⟨lb, 5, none⟩ = some (.int .i64 (st.e 1).known) := by rw [HBL.out.cell]; simp [lkCells]
  have u0 := HBL.out.frozen 3
  have u1 := HBL.out.frozen 4
  have u2 := HBL.out.frozen 5
  have hlv := HBL.out.lt
  have HS0 : Hid ((fun V => V.cell? ⟨bs, 0, none⟩ = some (.slice A1 rs.sent.length d1) ∧ V.cell? ⟨bs, 1, none⟩ = some (.int .i64 rs.taken) ∧ V.cell? ⟨bs, 2, none⟩ = some (.int .i64 rs.known)) V.drew) := ⟨x0, x1, x2⟩
  go_upto_region 6 with (fail)
  refine region_anyL (fun V => V.cell? ⟨bs, 0, none⟩ = some (.slice A1 rs.sent.length d1) ∧ V.cell? ⟨bs, 1, none⟩ = some (.int .i64 rs.taken) ∧ V.cell? ⟨bs, 2, none⟩ = some (.int .i64 rs.known)) 6 (by kernel_rfl) ?_
  refine anyL_take (i := 0) (oi := { dst := some 29, op := Op.move (Operand.tmp 0), type := 24, pos := "link.go:68", after := #[], guard := none }) (v := ?_) rfl (by kernel_rfl) (by kernel_rfl) (by kernel_rfl) (by kernel_rfl) (fun _ _ _ h => h) (Or.inl ⟨by rfl, ?_⟩) (HS0.out) ?_
  rotate_left
  · intro w hSw
    try dsimp only at hSw
    obtain ⟨q0, q1, q2⟩ := hSw
    first | (go_simp <;> fail) | (go_simp; with_reducible rfl)
  try simp only [Act.put, List.setIfInBounds_toArray, List.set_cons_zero, List.set_cons_succ]
  refine anyL_take (i := 1) (oi := { dst := some 30, op := Op.move (Operand.tmp 1), type := 3, pos := "link.go:68", after := #[], guard := none }) (v := ?_) rfl (by kernel_rfl) (by kernel_rfl) (by kernel_rfl) (by kernel_rfl) (fun _ _ _ h => h) (Or.inl ⟨by rfl, ?_⟩) (HS0.out) ?_
  rotate_left
  · intro w hSw
    try dsimp only at hSw
    obtain ⟨q0, q1, q2⟩ := hSw
    first | (go_simp <;> fail) | (go_simp; with_reducible rfl)
  try simp only [Act.put, List.setIfInBounds_toArray, List.set_cons_zero, List.set_cons_succ]
  refine anyL_take (i := 2) (oi := { dst := some 31, op := Op.load 33 (Operand.tmp 7), type := 33, pos := "link.go:68", after := #[], guard := none }) (v := ?_) rfl (by kernel_rfl) (by kernel_rfl) (by kernel_rfl) (by kernel_rfl) (fun _ _ _ h => h) (Or.inl ⟨by rfl, ?_⟩) (HS0.out) ?_
  rotate_left
  · intro w hSw
    try dsimp only at hSw
    obtain ⟨q0, q1, q2⟩ := hSw
    first | (go_simp <;> fail) | (go_simp; with_reducible rfl)
  try simp only [Act.put, List.setIfInBounds_toArray, List.set_cons_zero, List.set_cons_succ]
  refine anyL_takeC [4, 5] (i := 3) (oi := { dst := some 32, op := Op.nilCheck (Operand.tmp 29), type := 0, pos := "link.go:68", after := #[{ on := 0, ground := Ground.data }], guard := none }) (v := ?_) rfl (by kernel_rfl) (by kernel_rfl) (by kernel_rfl) (by kernel_rfl) (by kernel_rfl) (fun _ _ _ h => h) (Or.inl ⟨by rfl, ?_⟩) (HS0.out) ?_
  rotate_left
  · intro w hSw
    try dsimp only at hSw
    obtain ⟨q0, q1, q2⟩ := hSw
    first | (go_simp <;> fail) | (go_simp; with_reducible rfl)
  try simp only [Act.put, List.setIfInBounds_toArray, List.set_cons_zero, List.set_cons_succ]
  refine anyL_takeC [5] (i := 4) (oi := { dst := some 33, op := Op.fieldAddr 58 (Operand.tmp 32) 0, type := 0, pos := "link.go:68", after := #[{ on := 3, ground := Ground.data }], guard := none }) (v := ?_) rfl (by kernel_rfl) (by kernel_rfl) (by kernel_rfl) (by kernel_rfl) (by kernel_rfl) (fun _ _ _ h => h) (Or.inl ⟨by rfl, ?_⟩) (HS0.out) ?_
  rotate_left
  · intro w hSw
    try dsimp only at hSw
    obtain ⟨q0, q1, q2⟩ := hSw
    first | (go_simp <;> fail) | (go_simp; with_reducible rfl)
  try simp only [Act.put, List.setIfInBounds_toArray, List.set_cons_zero, List.set_cons_succ]
  refine anyL_take (i := 5) (oi := { dst := some 34, op := Op.indexAddr 48 (Operand.tmp 33) (Operand.tmp 30), type := 0, pos := "link.go:68", after := #[{ on := 4, ground := Ground.data }, { on := 1, ground := Ground.data }, { on := 0, ground := Ground.phase }, { on := 1, ground := Ground.phase }, { on := 2, ground := Ground.phase }], guard := none }) (v := ?_) rfl (by kernel_rfl) (by kernel_rfl) (by kernel_rfl) (by kernel_rfl) (fun _ _ _ h => h) (Or.inl ⟨by rfl, ?_⟩) (HS0.out) ?_
  rotate_left
  · intro w hSw
    try dsimp only at hSw
    obtain ⟨q0, q1, q2⟩ := hSw
    first | (go_simp <;> fail) | (go_simp; with_reducible rfl)
  try simp only [Act.put, List.setIfInBounds_toArray, List.set_cons_zero, List.set_cons_succ]
  refine anyL_one (i := 6) (o := { dst := none, op := Op.store 33 (Operand.tmp 34) (Operand.tmp 31), type := 0, pos := "link.go:68", after := #[{ on := 5, ground := Ground.data }, { on := 2, ground := Ground.data }, { on := 0, ground := Ground.phase }, { on := 1, ground := Ground.phase }, { on := 2, ground := Ground.phase }], guard := none }) (by kernel_rfl) rfl (fun K hK => ?_)
  go_simp
  refine hK.out _ _ (fun h0 => absurd rfl h0) ?_
  clear hK K
  try simp only [Act.put, List.setIfInBounds_toArray, List.set_cons_zero, List.set_cons_succ]
  refine anyL_done (by kernel_rfl) ?_ _
  obtain ⟨V2, hV2⟩ : ∃ V2, V2 = (((V.setCell ⟨lb, 3, none⟩ (.slice A1 rs.sent.length d1)).setCell ⟨lb, 4, none⟩ (.int .i64 rs.taken)).setCell ⟨lb, 5, none⟩ (.int .i64 rs.known)).drew := ⟨_, rfl⟩
  have hres0 := LinkAt.end1 (s' := rs) (V := V) HL0.out hLW HBV.out HOV.out
  have hres := And.intro hres0.1.drew (hres0.2.trans (Kept.of_below _ _ ((Below.refl _ _).drew)))
  rw [← hV2] at hres
  clear hres0
  have HRES := Lib.hid hres
  have hbflb : bs + 1 ≠ lb := by have := HL0.out.bk.lt; omega
  have HBF2 : Hid (Bk V2 (bs + 1) 44 #[.int .i64 fk, .int .i64 fn, .int .i64 ft, .string fb]) := by rw [hV2]; exact (((HBF.out.far (p := ⟨lb, 3, none⟩) hbflb _).far (p := ⟨lb, 4, none⟩) hbflb _).far (p := ⟨lb, 5, none⟩) hbflb _).drew
  rw [← hV2]
  clear hV2 hres x0 x1 x2 z0 z1 z2 hxg y0 y1 y2 u0 u1 u2 hlv hbflb
  obtain ⟨x0, x1, x2, x3, z0, z1, z2, z3, hxg⟩ := HBF2.out.four
  obtain ⟨V3, hV3⟩ : ∃ V3, V3 = V2.alloc (.cells #[.int .i64 fk, .int .i64 fn, .int .i64 ft, .string fb] 44) := ⟨_, rfl⟩
  obtain ⟨bl, hbl⟩ : ∃ bl, bl = V2.heap.size := ⟨_, rfl⟩
  have hB3 : Bk V3 bl 44 #[.int .i64 fk, .int .i64 fn, .int .i64 ft, .string fb] := by rw [hV3, hbl]; exact Bk.new _ _ _
  have hLA3 : LinkAt L lb (st.setE 1 rs) (upd R 1 A1) (upd C 1 d1) V3 := by rw [hV3]; exact HRES.out.1.alloc _
  have HKE3 : Hid (Kept lb R (upd R 1 A1) W V3) := by rw [hV3]; exact HRES.out.2.trans (Kept.of_below _ _ ((Below.refl _ V2).alloc (Nat.le_refl _) _))
  have hput := put_0 L lb (st.setE 1 rs) (upd R 1 A1) (upd C 1 d1) V3 (some ⟨bl, 0, none⟩) 1 1 [⟨fk, fn, ft, fb⟩] hLA3 hu (Nat.le_trans hLW HKE3.out.size) (by unfold maxLen; omega) ⟨rfl, fun _ => ⟨_, rfl, hB3.lt, World.news_of_block hB3⟩⟩
    (fun p hp hi => by injection hp with hp; subst hp; have h1 := (HRES.out.1.blocks _ hi).2; dsimp only at h1; omega)
  have HPUT := Lib.hid hput
  clear hput hB3 hLA3
  go_wp2_with fail
  rw [← hV3, ← hbl]
  clear hV3 hbl
  refine HPUT.out.mono ?_
  rintro e w4 ⟨rfl, R4, C4, hla4, hke4⟩
  have HLA4 := Lib.hid hla4
  have HKE4 := Lib.hid hke4
  clear hla4 hke4 x0 x1 x2 x3 z0 z1 z2 z3 hxg
  go_wp2
  go_ret
  rw [HSK1.out]
  exact ⟨rfl, R4, C4, HLA4.out, HKE3.out.trans HKE4.out⟩

set_option maxHeartbeats 8000000 in
set_option maxRecDepth 100000 in
theorem tick_0 (L lb : Nat) (st : Lk) (R : Nat → Option Addr) (C : Nat → Nat) (W : World) (hl : LinkAt L lb st R C W) (hu : (st.u 1).length ≤ 4096) (hLW : L ≤ W.heap.size) (hs : (st.e 0).sent.length ≤ maxLen) :
    Calls Try.prog 23 #[.pointer (some ⟨lb, 0, none⟩), .int .i64 0] W fun e W' => e = .returned (.int .i64 (tickK st 0).2) ∧ LOut L lb R W (tickK st 0).1 W' := by
  have HL0 := Lib.hid hl
  have hown : W.ownsRow L 9 1 (.slice (R 0) (st.e 0).sent.length (C 0)) (st.e 0).sent.length ((st.e 0).sent.map Value.string) := by simpa [rowTy, rowSz, rowLn, rowXs] using hl.own 0 (by omega)
  have htick := tick_any (R 0) (st.e 0).sent.length (C 0) (st.e 0) W hs (Rd.of_own hown)
  obtain ⟨g, hg⟩ : ∃ g, g = goodB (st.e 0) := ⟨_, rfl⟩
  unfold TickOut at htick
  rw [← hg] at htick
  have HSK : Hid (tickK st 0 = if g = true then (st.setU 1 (putU (st.u 1) [tickF (st.e 0)]), 0) else (st, 1)) := by rw [hg]; rfl
  obtain ⟨⟨fk, fn, ft, fb⟩, hf⟩ : ∃ f : Fr, f = if g = true then tickF (st.e 0) else zeroFr := ⟨_, rfl⟩
  rw [← hf] at htick
  unfold sideVal Fr.val at htick
  have HTICK := Lib.hid htick
  have HF := Lib.hid hf
  have c0 : W.cell? ⟨lb, 0, none⟩ = some (.slice (R 0) (st.e 0).sent.length (C 0)) := by rw [hl.bk.cell]; simp [lkCells]
  have c1 : W.cell? ⟨lb, 1, none⟩ = some (.int .i64 (st.e 0).taken) := by rw [hl.bk.cell]; simp [lkCells]
  have c2 : W.cell? ⟨lb, 2, none⟩ = some (.int .i64 (st.e 0).known) := by rw [hl.bk.cell]; simp [lkCells]
  have hlb := hl.bk.lt
  clear hl hown htick hg hf
  go_enter Try.func23, Try.ntmps23
  go_wp2_with fail
  refine (end_any lb 0 W).mono ?_
  rintro e w' ⟨rfl, hw'⟩
  rw [hw']
  clear hw' w'
  rw [decide_eq_true (by omega)]
  go_wp2_with fail
  refine HTICK.out.mono ?_
  rintro e w1 ⟨rfl, hb1⟩
  have HB1 := Lib.hid hb1
  clear hb1 c0 c1 c2
  obtain ⟨V, hV⟩ : ∃ V, V = w1.alloc (.cells #[.int .i64 fk, .int .i64 fn, .int .i64 ft, .string fb] 44) := ⟨_, rfl⟩
  obtain ⟨bs, hbs⟩ : ∃ bs, bs = w1.heap.size := ⟨_, rfl⟩
  have HBF : Hid (Bk V bs 44 #[.int .i64 fk, .int .i64 fn, .int .i64 ft, .string fb]) := by rw [hV, hbs]; exact Bk.new _ _ _
  have HBV : Hid (Below W.heap.size W V) := by rw [hV]; exact HB1.out.alloc HB1.out.size _
  cases g with
  | false =>
    have hsk := HSK.out
    rw [if_neg (by simp)] at hsk
    have HSK1 := Lib.hid hsk
    clear hsk
    go_upto_region 4 with (fail)
    rw [← hV, ← hbs]
    clear hV hbs
    go_wp2
    go_ret
    rw [HSK1.out]
    exact ⟨rfl, R, C, HL0.out.over HBV.out, Kept.of_below _ _ HBV.out⟩
  | true =>
  have hsk := HSK.out
  rw [if_pos rfl] at hsk
  have hf := HF.out
  rw [if_pos rfl] at hf
  rw [← hf] at hsk
  have HSK1 := Lib.hid hsk
  clear hsk hf HSK HF
  go_upto_region 4 with (fail)
  rw [← hV, ← hbs]
  clear hV hbs
  obtain ⟨x0, x1, x2, x3, z0, z1, z2, z3, hxg⟩ := HBF.out.four
  obtain ⟨V3, hV3⟩ : ∃ V3, V3 = V.alloc (.cells #[.int .i64 fk, .int .i64 fn, .int .i64 ft, .string fb] 44) := ⟨_, rfl⟩
  obtain ⟨bl, hbl⟩ : ∃ bl, bl = V.heap.size := ⟨_, rfl⟩
  have hB3 : Bk V3 bl 44 #[.int .i64 fk, .int .i64 fn, .int .i64 ft, .string fb] := by rw [hV3, hbl]; exact Bk.new _ _ _
  have HBV3 : Hid (Below W.heap.size W V3) := by rw [hV3]; exact HBV.out.alloc HBV.out.size _
  have hLA3 : LinkAt L lb st R C V3 := HL0.out.over HBV3.out
  have HKE3 : Hid (Kept lb R R W V3) := Kept.of_below _ _ HBV3.out
  have hput := put_1 L lb st R C V3 (some ⟨bl, 0, none⟩) 1 1 [⟨fk, fn, ft, fb⟩] hLA3 hu (Nat.le_trans hLW HKE3.out.size) (by unfold maxLen; omega) ⟨rfl, fun _ => ⟨_, rfl, hB3.lt, World.news_of_block hB3⟩⟩
    (fun p hp hi => by injection hp with hp; subst hp; have h1 := (HL0.out.blocks _ hi).2; have := HBV.out.size; dsimp only at h1; omega)
  have HPUT := Lib.hid hput
  clear hput hB3 hLA3
  go_wp2_with fail
  rw [← hV3, ← hbl]
  clear hV3 hbl
  refine HPUT.out.mono ?_
  rintro e w4 ⟨rfl, R4, C4, hla4, hke4⟩
  have HLA4 := Lib.hid hla4
  have HKE4 := Lib.hid hke4
  clear hla4 hke4 x0 x1 x2 x3 z0 z1 z2 z3 hxg
  go_wp2
  go_ret
  rw [HSK1.out]
  exact ⟨rfl, R4, C4, HLA4.out, HKE3.out.trans HKE4.out⟩

set_option maxHeartbeats 8000000 in
set_option maxRecDepth 100000 in
theorem tick_1 (L lb : Nat) (st : Lk) (R : Nat → Option Addr) (C : Nat → Nat) (W : World) (hl : LinkAt L lb st R C W) (hu : (st.u 0).length ≤ 4096) (hLW : L ≤ W.heap.size) (hs : (st.e 1).sent.length ≤ maxLen) :
    Calls Try.prog 23 #[.pointer (some ⟨lb, 0, none⟩), .int .i64 1] W fun e W' => e = .returned (.int .i64 (tickK st 1).2) ∧ LOut L lb R W (tickK st 1).1 W' := by
  have HL0 := Lib.hid hl
  have hown : W.ownsRow L 9 1 (.slice (R 1) (st.e 1).sent.length (C 1)) (st.e 1).sent.length ((st.e 1).sent.map Value.string) := by simpa [rowTy, rowSz, rowLn, rowXs] using hl.own 1 (by omega)
  have htick := tick_any (R 1) (st.e 1).sent.length (C 1) (st.e 1) W hs (Rd.of_own hown)
  obtain ⟨g, hg⟩ : ∃ g, g = goodB (st.e 1) := ⟨_, rfl⟩
  unfold TickOut at htick
  rw [← hg] at htick
  have HSK : Hid (tickK st 1 = if g = true then (st.setU 0 (putU (st.u 0) [tickF (st.e 1)]), 0) else (st, 1)) := by rw [hg]; rfl
  obtain ⟨⟨fk, fn, ft, fb⟩, hf⟩ : ∃ f : Fr, f = if g = true then tickF (st.e 1) else zeroFr := ⟨_, rfl⟩
  rw [← hf] at htick
  unfold sideVal Fr.val at htick
  have HTICK := Lib.hid htick
  have HF := Lib.hid hf
  have c0 : W.cell? ⟨lb, 3, none⟩ = some (.slice (R 1) (st.e 1).sent.length (C 1)) := by rw [hl.bk.cell]; simp [lkCells]
  have c1 : W.cell? ⟨lb, 4, none⟩ = some (.int .i64 (st.e 1).taken) := by rw [hl.bk.cell]; simp [lkCells]
  have c2 : W.cell? ⟨lb, 5, none⟩ = some (.int .i64 (st.e 1).known) := by rw [hl.bk.cell]; simp [lkCells]
  have hlb := hl.bk.lt
  clear hl hown htick hg hf
  go_enter Try.func23, Try.ntmps23
  go_wp2_with fail
  refine (end_any lb 1 W).mono ?_
  rintro e w' ⟨rfl, hw'⟩
  rw [hw']
  clear hw' w'
  rw [decide_eq_true (by omega)]
  go_wp2_with fail
  refine HTICK.out.mono ?_
  rintro e w1 ⟨rfl, hb1⟩
  have HB1 := Lib.hid hb1
  clear hb1 c0 c1 c2
  obtain ⟨V, hV⟩ : ∃ V, V = w1.alloc (.cells #[.int .i64 fk, .int .i64 fn, .int .i64 ft, .string fb] 44) := ⟨_, rfl⟩
  obtain ⟨bs, hbs⟩ : ∃ bs, bs = w1.heap.size := ⟨_, rfl⟩
  have HBF : Hid (Bk V bs 44 #[.int .i64 fk, .int .i64 fn, .int .i64 ft, .string fb]) := by rw [hV, hbs]; exact Bk.new _ _ _
  have HBV : Hid (Below W.heap.size W V) := by rw [hV]; exact HB1.out.alloc HB1.out.size _
  cases g with
  | false =>
    have hsk := HSK.out
    rw [if_neg (by simp)] at hsk
    have HSK1 := Lib.hid hsk
    clear hsk
    go_upto_region 4 with (fail)
    rw [← hV, ← hbs]
    clear hV hbs
    go_wp2
    go_ret
    rw [HSK1.out]
    exact ⟨rfl, R, C, HL0.out.over HBV.out, Kept.of_below _ _ HBV.out⟩
  | true =>
  have hsk := HSK.out
  rw [if_pos rfl] at hsk
  have hf := HF.out
  rw [if_pos rfl] at hf
  rw [← hf] at hsk
  have HSK1 := Lib.hid hsk
  clear hsk hf HSK HF
  go_upto_region 4 with (fail)
  rw [← hV, ← hbs]
  clear hV hbs
  obtain ⟨x0, x1, x2, x3, z0, z1, z2, z3, hxg⟩ := HBF.out.four
  obtain ⟨V3, hV3⟩ : ∃ V3, V3 = V.alloc (.cells #[.int .i64 fk, .int .i64 fn, .int .i64 ft, .string fb] 44) := ⟨_, rfl⟩
  obtain ⟨bl, hbl⟩ : ∃ bl, bl = V.heap.size := ⟨_, rfl⟩
  have hB3 : Bk V3 bl 44 #[.int .i64 fk, .int .i64 fn, .int .i64 ft, .string fb] := by rw [hV3, hbl]; exact Bk.new _ _ _
  have HBV3 : Hid (Below W.heap.size W V3) := by rw [hV3]; exact HBV.out.alloc HBV.out.size _
  have hLA3 : LinkAt L lb st R C V3 := HL0.out.over HBV3.out
  have HKE3 : Hid (Kept lb R R W V3) := Kept.of_below _ _ HBV3.out
  have hput := put_0 L lb st R C V3 (some ⟨bl, 0, none⟩) 1 1 [⟨fk, fn, ft, fb⟩] hLA3 hu (Nat.le_trans hLW HKE3.out.size) (by unfold maxLen; omega) ⟨rfl, fun _ => ⟨_, rfl, hB3.lt, World.news_of_block hB3⟩⟩
    (fun p hp hi => by injection hp with hp; subst hp; have h1 := (HL0.out.blocks _ hi).2; have := HBV.out.size; dsimp only at h1; omega)
  have HPUT := Lib.hid hput
  clear hput hB3 hLA3
  go_wp2_with fail
  rw [← hV3, ← hbl]
  clear hV3 hbl
  refine HPUT.out.mono ?_
  rintro e w4 ⟨rfl, R4, C4, hla4, hke4⟩
  have HLA4 := Lib.hid hla4
  have HKE4 := Lib.hid hke4
  clear hla4 hke4 x0 x1 x2 x3 z0 z1 z2 z3 hxg
  go_wp2
  go_ret
  rw [HSK1.out]
  exact ⟨rfl, R4, C4, HLA4.out, HKE3.out.trans HKE4.out⟩

end Go.Proofs.Ytnbndhmdfheikaa
