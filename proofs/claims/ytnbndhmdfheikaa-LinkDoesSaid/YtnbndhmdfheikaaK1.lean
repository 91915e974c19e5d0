/- Walks: Tick. -/
import Derived.Test.YtnbndhmdfheikaaS1
import Derived.Test.YtnbndhmdfheikaaT6
namespace Go.Proofs.Ytnbndhmdfheikaa
open Go.RowKit

def tickF (s : Sd) : Fr := ⟨3, s.sent.length, s.taken, noBytes⟩
/-- What Tick leaves. -/
def TickOut (w : World) (s : Sd) (e : Ending) (w' : World) : Prop :=
  e = .returned (.tuple #[(if goodB s = true then tickF s else zeroFr).val, .int .i64 (if goodB s = true then 0 else 1)]) ∧ Below w.heap.size w w'
theorem TickOut.no {w w' : World} {s : Sd} {e : Ending} (h : goodB s = false) (he : e = .returned (.tuple #[zeroFr.val, .int .i64 1])) (hb : Below w.heap.size w w') : TickOut w s e w' := by
  refine ⟨?_, hb⟩; rw [h]; exact he
theorem TickOut.yes {w w' : World} {s : Sd} {e : Ending} (h : goodB s = true) (he : e = .returned (.tuple #[(tickF s).val, .int .i64 0])) (hb : Below w.heap.size w w') : TickOut w s e w' := by
  refine ⟨?_, hb⟩; rw [h]; exact he
set_option maxHeartbeats 1000000 in
theorem tick_any (A : Option Addr) (n c : Nat) (s : Sd) (w : World) (hn : n ≤ maxLen) (hr : Rd w w.heap.size 1 A n (s.sent.map Value.string)) :
    Calls Try.prog 38 #[sideVal (.slice A n c) s] w (TickOut w s) := by
  have hl : s.sent.length = n := by simpa using hr.1
  obtain ⟨ss, tk, kn⟩ := s
  dsimp only at hl hr
  obtain ⟨W, hW⟩ : ∃ W, W = (w.alloc (.cells #[.slice A n c, .int .i64 tk, .int .i64 kn] 33)).alloc (.cells #[.int .i64 0, .int .i64 0, .int .i64 0, .string noBytes] 44) := ⟨_, rfl⟩
  have hrW : Rd W W.heap.size 1 A n (ss.map Value.string) := by rw [hW]; exact ((hr.alloc (Nat.le_refl _) _).alloc (by simp) _).mono (by simp; omega)
  have hB0 : Bk W w.heap.size 33 #[.slice A n c, .int .i64 tk, .int .i64 kn] := by rw [hW]; exact (Bk.new w _ _).alloc _
  have hB1 : Bk W (w.heap.size + 1) 44 #[.int .i64 0, .int .i64 0, .int .i64 0, .string noBytes] := by
    rw [hW]; have := Bk.new (w.alloc (.cells #[.slice A n c, .int .i64 tk, .int .i64 kn] 33)) 44 #[.int .i64 0, .int .i64 0, .int .i64 0, .string noBytes]; simpa using this
  have hz : W.heap.size = w.heap.size + 1 + 1 := by rw [hW]; simp
  have hbl : Below w.heap.size w W := by rw [hW]; exact ((Below.refl _ w).alloc (Nat.le_refl _) _).alloc (by simp) _
  have HB0 := Lib.hid hB0
  have HB1 := Lib.hid hB1
  have HZ := Lib.hid hz
  have HL := Lib.hid hbl
  have HLN := Lib.hid hl
  have HW := Lib.hid hW
  clear hB0 hB1 hz hbl hl hW hr
  unfold sideVal
  go_enter Try.func38, Try.ntmps38
  go_wp2_with fail
  have hW := HW.out
  unfold noBytes at hW
  rw [← hW]
  clear hW
  refine (good_any A n c ⟨ss, tk, kn⟩ W hn hrW).mono ?_
  rintro e w1 ⟨rfl, hb1⟩
  have HBl := Lib.hid hb1
  obtain ⟨q0, q1, q2, z0, z1, z2, hs0⟩ := (HB0.out.below hb1 (by have := HZ.out; omega)).three
  obtain ⟨r0, r1, r2, r3, y0, y1, y2, y3, hs⟩ := (HB1.out.below hb1 (by have := HZ.out; omega)).four
  clear hb1
  cases hg : goodB ⟨ss, tk, kn⟩
  · have HG := Lib.hid hg
    clear hg
    go_wp2
    refine bodyPost_ret (v := .tuple #[zeroFr.val, .int .i64 1]) (by simp [results, Try.results38, go_sem, r0, r1, r2, r3, noBytes, zeroFr, Fr.val]) rfl (TickOut.no HG.out rfl ?_)
    repeat (refine Below.setCell ?_ (by first | (simp; done) | (simp; omega)) _)
    exact HL.out.trans (HBl.out.mono (by have := HZ.out; omega))
  · have HG := Lib.hid hg
    clear hg
    go_wp2
    refine bodyPost_ret (v := .tuple #[(tickF ⟨ss, tk, kn⟩).val, .int .i64 0]) (by have := HLN.out; simp [results, Try.results38, go_sem, r0, r1, r2, r3, noBytes, tickF, Fr.val, this]) rfl (TickOut.yes HG.out rfl ?_)
    repeat (refine Below.setCell ?_ (by first | (simp; done) | (simp; omega)) _)
    exact HL.out.trans (HBl.out.mono (by have := HZ.out; omega))

def aBytes : ByteArray := ⟨#[97]⟩
theorem wake_send : sendS ⟨[], 0, 0⟩ aBytes = ⟨⟨[aBytes], 0, 0⟩, ⟨1, 1, 0, aBytes⟩, 0⟩ := by
  have h1 : goodB ⟨[], 0, 0⟩ = true := by decide
  have h2 : fitsB aBytes = true := by decide
  simp [sendS, h1, h2]
theorem wake_take : takeS ⟨[], 0, 0⟩ ⟨1, 1, 0, aBytes⟩ = ⟨⟨[], 1, 0⟩, aBytes, [], 0⟩ := by
  have h1 : goodB ⟨[], 0, 0⟩ = true := by decide
  have h2 : validB ⟨1, 1, 0, aBytes⟩ = true := by decide
  simp [takeS, h1, h2, Sd.knows]

end Go.Proofs.Ytnbndhmdfheikaa
