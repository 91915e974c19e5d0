/- Walk: Put. By gen_c.py. -/
import Derived.Test.YtiapbgbbeakoiaaOE
namespace Go.Proofs.Ytiapbgbbeakoiaa.O
open Go.RowKit

/-- What Put, Drop and Cut answer. -/
def putL (l : List Lc) (x : Lc) : List Lc × Int :=
  if thereB l x = true then ([], 35) else if 32 ≤ l.length then ([], 40) else (l.take (place l x) ++ x :: l.drop (place l x), 0)
def dropL (l : List Lc) (a i : Int) : List Lc × Int :=
  if thereB l ⟨a, i, 0, 0, 0⟩ = true then (l.take (place l ⟨a, i, 0, 0, 0⟩) ++ l.drop (place l ⟨a, i, 0, 0, 0⟩ + 1), 0) else ([], 34)
def cutL (l : List Lc) (a i q : Int) : List Lc × Int × Int :=
  if thereB l ⟨a, i, 0, 0, 0⟩ = true then
    if q < 1 ∨ absI (l.getD (place l ⟨a, i, 0, 0, 0⟩) default).qty < q then ([], 0, 36)
    else if absI (l.getD (place l ⟨a, i, 0, 0, 0⟩) default).qty = q then (l.take (place l ⟨a, i, 0, 0, 0⟩) ++ l.drop (place l ⟨a, i, 0, 0, 0⟩ + 1), 0, 0)
    else (putQ l (place l ⟨a, i, 0, 0, 0⟩) (if (l.getD (place l ⟨a, i, 0, 0, 0⟩) default).qty < 0 then (l.getD (place l ⟨a, i, 0, 0, 0⟩) default).qty + q else (l.getD (place l ⟨a, i, 0, 0, 0⟩) default).qty - q), absI (l.getD (place l ⟨a, i, 0, 0, 0⟩) default).qty - q, 0)
  else ([], 0, 34)

def COut (w : World) (r : List Lc × Int × Int) (e : Ending) (w' : World) : Prop :=
  ∃ A c, e = .returned (.tuple #[.slice A r.1.length c, .int .i64 r.2.1, .int .i64 r.2.2]) ∧ r.1.length ≤ c ∧ c ≤ maxLen ∧ w'.ownsRow w.heap.size 38 5 (.slice A r.1.length c) r.1.length (lcs r.1) ∧ Below w.heap.size w w'
theorem c_bad {w w' : World} (er : Int) (hb : Below w.heap.size w w') : COut w ([], 0, er) (.returned (.tuple #[.slice none 0 0, .int .i64 0, .int .i64 er])) w' :=
  ⟨none, 0, rfl, Nat.le_refl _, Nat.zero_le _, World.ownsRow_nil _ _ _ _, hb⟩
theorem c_ok {w w' : World} {A : Option Addr} {c m : Nat} {ys : List Lc} {v : Int} (hl : ys.length = m) (hc : m ≤ c) (hc2 : c ≤ maxLen) (h1 : w'.ownsRow w.heap.size 38 5 (.slice A m c) m (lcs ys)) (hb : Below w.heap.size w w') :
    COut w (ys, v, 0) (.returned (.tuple #[.slice A m c, .int .i64 v, .int .i64 0])) w' := by
  subst hl
  exact ⟨A, c, rfl, hc, hc2, h1, hb⟩

set_option maxHeartbeats 8000000 in
set_option maxRecDepth 100000 in
theorem put_any (A : Option Addr) (n c : Nat) (l : List Lc) (x : Lc) (w : World) (hso : Sorted l) (hn : n ≤ 1000000) (hr : Rd w w.heap.size 5 A n (lcs l)) :
    Calls Try.prog 17 #[.slice A n c, x.val] w (LOut w (putL l x)) := by
  have hl : l.length = n := by have := hr.1; rw [lcs_len] at this; omega
  obtain ⟨r, hr'⟩ : ∃ r, r = putL l x := ⟨_, rfl⟩
  rw [← hr']
  have HR := Lib.hid hr'
  have HSO := Lib.hid hso
  have HL := Lib.hid hl
  obtain ⟨w0, hw0⟩ : ∃ w0, w0 = w.alloc (.cells #[.int .i64 x.acct, .int .i64 x.id, .int .i64 x.instr, .int .i64 x.qty, .int .i64 x.price] 38) := ⟨_, rfl⟩
  obtain ⟨bx, hbx⟩ : ∃ bx, bx = w.heap.size := ⟨_, rfl⟩
  have HBX : Hid (Bk w0 bx 38 #[.int .i64 x.acct, .int .i64 x.id, .int .i64 x.instr, .int .i64 x.qty, .int .i64 x.price]) := by rw [hw0, hbx]; exact Bk.new _ _ _
  have HB0 : Hid (Below w.heap.size w w0) := by rw [hw0]; exact (Below.refl _ w).alloc (Nat.le_refl _) _
  have HRD : Hid (Rd w0 w0.heap.size 5 A n (lcs l)) := (hr.below HB0.out).mono HB0.out.size
  clear hr' hso hr hl
  unfold Lc.val
  go_enter Try.func17, Try.ntmps17
  go_upto_region 1 with (fail)
  rw [← hw0, ← hbx]
  clear hw0 hbx
  go_wp2_with fail
  refine (cloneL_any A n c (lcs l) w0 (lcs_one l) (by omega) HRD.out).mono ?_
  rintro e w1 ⟨A1, c1, rfl, hc1, hm1, ho1, hb1⟩
  have HBX1 : Hid (Bk w1 bx 38 #[.int .i64 x.acct, .int .i64 x.id, .int .i64 x.instr, .int .i64 x.qty, .int .i64 x.price]) := HBX.out.below hb1 HBX.out.lt
  have HB2 : Hid (Below w.heap.size w w1) := HB0.out.trans (hb1.mono HB0.out.size)
  have HO2 : Hid (w1.ownsRow w.heap.size 38 5 (.slice A1 n c1) n (lcs l)) := own_mono ho1 HB0.out.size
  have HC1 := Lib.hid hc1
  have HM1 := Lib.hid hm1
  clear hc1 hm1 ho1 hb1
  obtain ⟨x0, x1, x2, x3, x4, z0, z1, z2, z3, z4, hxg⟩ := HBX1.out.five
  have hbsf := bsf_any A1 n c1 l x w1 HSO.out (by omega) (Rd.of_own HO2.out)
  have hp0 := HSO.out.place x
  have hrr := HR.out
  unfold putL at hrr
  obtain ⟨p, hp⟩ : ∃ p, p = place l x := ⟨_, rfl⟩
  obtain ⟨th, hth⟩ : ∃ th, th = thereB l x := ⟨_, rfl⟩
  rw [← hp, ← hth] at hbsf hrr
  rw [← hp] at hp0
  have hpm : p ≤ n := by have := hp0.1; have := HL.out; omega
  have HRR := Lib.hid hrr
  unfold Lc.val at hbsf
  have HBSF := Lib.hid hbsf
  clear hbsf hp hth hp0 hrr
  go_wp2_with fail
  refine HBSF.out.mono ?_
  rintro e w4 ⟨rfl, hb3⟩
  have HBX3 : Hid (Bk w4 bx 38 #[.int .i64 x.acct, .int .i64 x.id, .int .i64 x.instr, .int .i64 x.qty, .int .i64 x.price]) := HBX1.out.below hb3 HBX1.out.lt
  have HO3 : Hid (w4.ownsRow w.heap.size 38 5 (.slice A1 n c1) n (lcs l)) := own_keep HO2.out fun p hp => hb3.block _ (own_lt HO2.out p hp).2
  have HB3 : Hid (Below w.heap.size w w4) := HB2.out.trans (hb3.mono HB2.out.size)
  clear x0 x1 x2 x3 x4 z0 z1 z2 z3 z4 hxg hb3
  obtain ⟨x0, x1, x2, x3, x4, z0, z1, z2, z3, z4, hxg⟩ := HBX3.out.five
  cases th with
  | true =>
    have e : r = ([], 35) := by rw [HRR.out, if_pos rfl]
    subst e
    go_wp2
    go_ret2
    exact l_bad 35 HB3.out
  | false =>
  have er := HRR.out
  rw [if_neg (by simp), HL.out] at er
  by_cases h64 : 32 ≤ n
  · have e : r = ([], 40) := by rw [er, if_pos h64]
    subst e
    have i5 : (32 : Int) ≤ (n : Int) := by omega
    clear er
    go_wp2
    go_ret2
    exact l_bad 40 HB3.out
  have e : r = (l.take p ++ x :: l.drop p, 0) := by rw [er, if_neg h64]
  clear er
  obtain ⟨zs, hzs⟩ : ∃ zs, zs = l.take p ++ x :: l.drop p := ⟨_, rfl⟩
  rw [← hzs] at e
  subst e
  have i5 : ¬ ((32 : Int) ≤ (n : Int)) := by omega
  obtain ⟨vb, hvb⟩ : ∃ vb, vb = w4.heap.size := ⟨_, rfl⟩
  obtain ⟨W6, hW6⟩ : ∃ W6, W6 = w4.alloc (.cells #[.int .i64 x.acct, .int .i64 x.id, .int .i64 x.instr, .int .i64 x.qty, .int .i64 x.price] 38) := ⟨_, rfl⟩
  have hVB : Bk W6 vb 38 #[.int .i64 x.acct, .int .i64 x.id, .int .i64 x.instr, .int .i64 x.qty, .int .i64 x.price] := by rw [hW6, hvb]; exact Bk.new _ _ _
  have hO6 : W6.ownsRow w.heap.size 38 5 (.slice A1 n c1) n (lcs l) := by rw [hW6]; exact HO3.out.alloc _
  have HB6 : Hid (Below w.heap.size w W6) := by rw [hW6]; exact HB3.out.alloc HB3.out.size _
  have HINS := Lib.hid (insert_any w.heap.size n c1 p vb A1 l x W6 hO6 HL.out (by omega) hpm HB6.out.size hVB (fun a' ha' hv' => by have := (own_lt HO3.out a' ha').2; omega))
  rw [← hzs] at HINS
  clear hO6 hVB hzs
  go_wp2_with fail
  rw [← hW6, ← hvb]
  refine HINS.out.mono ?_
  rintro e w7 ⟨A3, c3, rfl, h5, h6, ho7, hb7⟩
  clear x0 x1 x2 x3 x4 z0 z1 z2 z3 z4 hxg
  have hb27 : Below w.heap.size w w7 := HB6.out.trans hb7
  go_wp2
  go_ret2
  exact l_ok rfl h5 h6 ho7 hb27


end Go.Proofs.Ytiapbgbbeakoiaa.O
