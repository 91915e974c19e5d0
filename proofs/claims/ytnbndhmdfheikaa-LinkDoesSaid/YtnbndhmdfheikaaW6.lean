/- Walk: again. -/
import Derived.Test.YtnbndhmdfheikaaW5
namespace Go.Proofs.Ytnbndhmdfheikaa
open Go.RowKit

/-- The frames of the messages from q on, at most 64. -/
def Sd.again (s : Sd) (q : Int) : List Fr := (List.range (min 64 (s.sent.length + 1 - q.toNat))).map fun i : Nat => s.data (q + i)
def frs (l : List Fr) : List Value := l.flatMap Fr.cells
theorem frs_len (l : List Fr) : (frs l).length = l.length * 4 := by
  induction l with
  | nil => rfl
  | cons a l ih => simp only [frs, List.flatMap_cons, List.length_append, List.length_cons] at ih ⊢; rw [ih]; simp [Fr.cells]; omega
theorem frs_append (l m : List Fr) : frs (l ++ m) = frs l ++ frs m := by simp [frs]
theorem cells_one (f : Fr) : ∀ u ∈ f.cells, u.oneCell' = true := by
  intro u hu
  simp only [Fr.cells, List.mem_cons, List.not_mem_nil, or_false] at hu
  rcases hu with rfl | rfl | rfl | rfl <;> rfl

/-- What a list of frames in new memory is. -/
def OwnFrs (w : World) (l : List Fr) (e : Ending) (w' : World) : Prop :=
  ∃ A c, e = .returned (.slice A l.length c) ∧ l.length ≤ c ∧ c ≤ maxLen ∧ w'.ownsRow w.heap.size 44 4 (.slice A l.length c) l.length (frs l) ∧ Below w.heap.size w w'

/-- The loop's relation behind k rounds. -/
def AgainAt (W : World) (s : Sd) (q : Int) (k : Nat) (wr : World) (v : Value) : Prop :=
  (∃ A c, v = .slice A k c) ∧ wr.ownsRow W.heap.size 44 4 v k (frs ((List.range k).map fun i : Nat => s.data (q + i))) ∧ Below W.heap.size W wr

set_option maxHeartbeats 1000000 in
theorem again_any (A : Option Addr) (n c : Nat) (s : Sd) (q : Int) (w : World) (hn : n ≤ 256) (hr : Rd w w.heap.size 1 A n (s.sent.map Value.string)) (h1 : 1 ≤ q) (h2 : q ≤ 1099511627776) :
    Calls Try.prog 44 #[sideVal (.slice A n c) s, .int .i64 q] w (OwnFrs w (s.again q)) := by
  have hl : s.sent.length = n := by simpa using hr.1
  obtain ⟨i0, hi, hz0, hzs, hz2⟩ := info_parts info44
  obtain ⟨W, hW⟩ : ∃ W, W = w.alloc (.cells #[.slice A n c, .int .i64 s.taken, .int .i64 s.known] 33) := ⟨_, rfl⟩
  have hbk : Bk W w.heap.size 33 #[.slice A n c, .int .i64 s.taken, .int .i64 s.known] := by rw [hW]; exact Bk.new _ _ _
  have hrW : Rd W W.heap.size 1 A n (s.sent.map Value.string) := by rw [hW]; exact (hr.alloc (Nat.le_refl _) _).mono (by simp)
  have hlt : w.heap.size < W.heap.size := by rw [hW]; simp
  have HK := Lib.hid hbk
  have HR := Lib.hid hrW
  have HL := Lib.hid hl
  have HW := Lib.hid hW
  clear hbk hrW hl
  unfold sideVal
  go_enter Try.func44, Try.ntmps44
  go_wp2_with fail
  rw [← hW]
  clear hW
  go_loopw [5, 6] (fun v i wr => ∃ k : Nat, k ≤ min 64 (n + 1 - q.toNat) ∧ i = .int .i64 (q + k) ∧ AgainAt W s q k wr v) (fun _ i _ => (1099511628000 - intOf i).toNat)
  case atStart => exact ⟨0, Nat.zero_le _, by simp, ⟨none, 0, rfl⟩, World.ownsRow_nil _ _ _ _, Below.refl _ _⟩
  case round =>
    obtain ⟨k, hk, rfl, ⟨A1, c1, rfl⟩, hown, hb⟩ := hrel
    have HO := Lib.hid hown
    have HB := Lib.hid hb
    clear hown hb
    obtain ⟨q0, q1, q2, z0, z1, z2, hg⟩ := (HK.out.below HB.out hlt).three
    by_cases hlt' : k < min 64 (n + 1 - q.toNat)
    · have hq1 : q + k ≤ n := by omega
      have hk64 : k < 64 := by omega
      have hrr := (HR.out.below HB.out).mono HB.out.size
      have HRR := Lib.hid hrr
      clear hrr
      go_wp2_with fail
      refine (data_any A n c s (q + k) wr (by unfold maxLen; omega) HRR.out (by omega) (by omega)).mono ?_
      rintro e w1 ⟨rfl, hb1⟩
      have HB1 := Lib.hid hb1
      have ho1 : (w1.alloc (.cells #[.int .i64 1, .int .i64 (q + k), .int .i64 s.taken, .string (s.msg (q + k))] 44)).ownsRow W.heap.size 44 4 (.slice A1 k c1) k (frs ((List.range k).map fun i : Nat => s.data (q + i))) := ((HO.out.kept (row := none) ⟨hb1.os, hb1.tape, hb1.output, hb1.size, fun j hj _ => hb1.block j hj⟩ (by cases (Value.slice A1 k c1).ownBlock <;> simp)).alloc _)
      have hr1 : Rd (w1.alloc (.cells #[.int .i64 1, .int .i64 (q + k), .int .i64 s.taken, .string (s.msg (q + k))] 44)) (w1.heap.size + 1) 4 (some ⟨w1.heap.size, 0, none⟩) 1 (s.data (q + k)).cells :=
        ⟨rfl, fun _ => ⟨_, rfl, by simp, World.news_of_block (fr := (0, 0)) (t := 44) (cs := #[.int .i64 1, .int .i64 (q + k), .int .i64 s.taken, .string (s.msg (q + k))]) (heap_alloc_new w1 _)⟩⟩
      have hs1 : W.heap.size ≤ w1.heap.size := Nat.le_trans HB.out.size hb1.size
      have hs2 : wr.heap.size ≤ w1.heap.size := hb1.size
      clear hb1
      unfold Fr.val Sd.data
      go_wp2_with (at_builtin; go_must (refine wpList_append_rd _ rfl (.tmp 20) (.tmp 24) _ rfl W.heap.size 44 i0 _ 4 40 Try.underlying38 hi hz0 hzs hz2 rfl (by omega) _ k _ rfl ho1 (w1.heap.size + 1) _ 1 1 _ rfl hr1 (cells_one _) (by simp only [maxLen]; omega) (by omega) (by simp; omega) ?_); intro A2 c2 w2 hc2 hm2 hown2 hg2 hat2)
      go_roundw
      case rel =>
        refine ⟨k + 1, by omega, by rw [show q + ((k + 1 : Nat) : Int) = q + k + 1 by omega], ⟨A2, c2, rfl⟩, ?_, ?_⟩
        · rw [List.range_succ, List.map_append, frs_append]
          simpa [frs] using hown2
        · exact ((HB.out.trans (HB1.out.mono HB.out.size)).alloc hs1 _).grown hg2 (by simp; omega) (fun g hg => (ho1.lt g hg).1)
      case measure => simp [intOf]; omega
    · have hke : k = min 64 (n + 1 - q.toNat) := by omega
      have hfin : s.again q = (List.range k).map fun i : Nat => s.data (q + i) := by rw [Sd.again, HL.out, ← hke]
      have hBw : Below w.heap.size w wr := by
        have := HW.out
        exact ((Below.refl w.heap.size w).alloc (Nat.le_refl _) _).trans (by rw [← this]; exact HB.out.mono (Nat.le_of_lt hlt))
      have fin : OwnFrs w (s.again q) (.returned (.slice A1 k c1)) wr := by
        obtain ⟨A', c', he, hk', hm'⟩ := own_form HO.out
        injection he with _ _ he
        subst he
        rw [hfin]
        have hlen : ((List.range k).map fun i : Nat => s.data (q + i)).length = k := by simp
        refine ⟨A1, c1, by rw [hlen], by rw [hlen]; exact hk', hm', ?_, hBw⟩
        rw [hlen]
        exact own_mono HO.out (Nat.le_of_lt hlt)
      have FIN : Hid _ := fin
      clear hfin hBw fin
      by_cases hq : q + k ≤ n
      · have hk64 : ¬ ((k : Int) < 64) := by omega
        clear hke
        go_wp2
        go_ret
        exact FIN.out
      · clear hke
        go_wp2
        go_ret
        exact FIN.out

end Go.Proofs.Ytnbndhmdfheikaa
