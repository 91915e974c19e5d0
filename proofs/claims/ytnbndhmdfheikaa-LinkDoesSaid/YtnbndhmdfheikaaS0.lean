/- Walk: Send of the program. -/
import Derived.Test.YtnbndhmdfheikaaT6
namespace Go.Proofs.Ytnbndhmdfheikaa
open Go.RowKit

structure SendR where
  s : Sd
  f : Fr
  e : Int
def zeroFr : Fr := ⟨0, 0, 0, noBytes⟩
def sendS (s : Sd) (m : ByteArray) : SendR :=
  if goodB s = false then ⟨⟨[], 0, 0⟩, zeroFr, 1⟩
  else if fitsB m = false then ⟨⟨[], 0, 0⟩, zeroFr, 11⟩
  else if s.sent.length = 256 then ⟨⟨[], 0, 0⟩, zeroFr, 40⟩
  else ⟨⟨s.sent ++ [m], s.taken, s.known⟩, ⟨1, s.sent.length + 1, s.taken, m⟩, 0⟩
/-- What Send leaves. -/
def SendOut (w : World) (r : SendR) (e : Ending) (w' : World) : Prop :=
  ∃ A c, e = .returned (.tuple #[sideVal (.slice A r.s.sent.length c) r.s, r.f.val, .int .i64 r.e]) ∧ r.s.sent.length ≤ c ∧ c ≤ maxLen ∧
    w'.ownsRow w.heap.size 9 1 (.slice A r.s.sent.length c) r.s.sent.length (r.s.sent.map Value.string) ∧ Below w.heap.size w w'

def B1 (w : World) (g : Nat) (v0 v1 v2 : Value) : Prop :=
  Bk w g 33 #[v0, v1, v2] ∧ Bk w (g + 1) 33 #[.slice none 0 0, .int .i64 0, .int .i64 0] ∧ Bk w (g + 1 + 1) 44 #[.int .i64 0, .int .i64 0, .int .i64 0, .string noBytes]
theorem B1.below {w w' : World} {B g : Nat} {v0 v1 v2 : Value} (h : B1 w g v0 v1 v2) (hb : Below B w w') (hg : g + 2 < B) : B1 w' g v0 v1 v2 :=
  ⟨h.1.below hb (by omega), h.2.1.below hb (by omega), h.2.2.below hb (by omega)⟩
theorem B1.alloc {w : World} {g : Nat} {v0 v1 v2 : Value} (h : B1 w g v0 v1 v2) (o : Obj) : B1 (w.alloc o) g v0 v1 v2 := ⟨h.1.alloc o, h.2.1.alloc o, h.2.2.alloc o⟩
theorem B1.grown {w w' : World} {g : Nat} {v0 v1 v2 : Value} {row : Option Nat} (h : B1 w g v0 v1 v2) (hb : w.grownBy w' row) (hr : ∀ k, row = some k → g + 2 < k) : B1 w' g v0 v1 v2 :=
  ⟨h.1.grown hb (fun e => by have := hr _ e.symm; omega), h.2.1.grown hb (fun e => by have := hr _ e.symm; omega), h.2.2.grown hb (fun e => by have := hr _ e.symm; omega)⟩
theorem B1.set0 {w : World} {g : Nat} {v0 v1 v2 : Value} (h : B1 w g v0 v1 v2) (u : Value) : B1 (w.setCell ⟨g, 0, none⟩ u) g u v1 v2 :=
  ⟨h.1.set 0 u, h.2.1.far (p := ⟨g, 0, none⟩) (by simp) u, h.2.2.far (p := ⟨g, 0, none⟩) (by simp; omega) u⟩
theorem B1.set1 {w : World} {g : Nat} {v0 v1 v2 : Value} (h : B1 w g v0 v1 v2) (u : Value) : B1 (w.setCell ⟨g, 1, none⟩ u) g v0 u v2 :=
  ⟨h.1.set 1 u, h.2.1.far (p := ⟨g, 1, none⟩) (by simp) u, h.2.2.far (p := ⟨g, 1, none⟩) (by simp; omega) u⟩
theorem B1.set2 {w : World} {g : Nat} {v0 v1 v2 : Value} (h : B1 w g v0 v1 v2) (u : Value) : B1 (w.setCell ⟨g, 2, none⟩ u) g v0 v1 u :=
  ⟨h.1.set 2 u, h.2.1.far (p := ⟨g, 2, none⟩) (by simp) u, h.2.2.far (p := ⟨g, 2, none⟩) (by simp; omega) u⟩
theorem B1.new (w : World) (v0 v1 v2 : Value) : B1 (((w.alloc (.cells #[v0, v1, v2] 33)).alloc (.cells #[.slice none 0 0, .int .i64 0, .int .i64 0] 33)).alloc (.cells #[.int .i64 0, .int .i64 0, .int .i64 0, .string noBytes] 44)) w.heap.size v0 v1 v2 := by
  refine ⟨((Bk.new w _ _).alloc _).alloc _, ?_, ?_⟩
  · have := (Bk.new (w.alloc (.cells #[v0, v1, v2] 33)) 33 #[.slice none 0 0, .int .i64 0, .int .i64 0]).alloc (.cells #[.int .i64 0, .int .i64 0, .int .i64 0, .string noBytes] 44)
    simpa using this
  · have := Bk.new ((w.alloc (.cells #[v0, v1, v2] 33)).alloc (.cells #[.slice none 0 0, .int .i64 0, .int .i64 0] 33)) 44 #[.int .i64 0, .int .i64 0, .int .i64 0, .string noBytes]
    simpa using this
theorem B1.out {w : World} {g : Nat} {v0 v1 v2 : Value} (h : B1 w g v0 v1 v2) :
    (w.cell? ⟨g, 0, none⟩ = some v0 ∧ w.cell? ⟨g, 1, none⟩ = some v1 ∧ w.cell? ⟨g, 2, none⟩ = some v2 ∧ w.frozen? ⟨g, 0, none⟩ = false ∧ w.frozen? ⟨g, 1, none⟩ = false ∧ w.frozen? ⟨g, 2, none⟩ = false) ∧
    (w.cell? ⟨g + 1, 0, none⟩ = some (.slice none 0 0) ∧ w.cell? ⟨g + 1, 1, none⟩ = some (.int .i64 0) ∧ w.cell? ⟨g + 1, 2, none⟩ = some (.int .i64 0) ∧ w.frozen? ⟨g + 1, 0, none⟩ = false ∧ w.frozen? ⟨g + 1, 1, none⟩ = false ∧ w.frozen? ⟨g + 1, 2, none⟩ = false) ∧
    (w.cell? ⟨g + 1 + 1, 0, none⟩ = some (.int .i64 0) ∧ w.cell? ⟨g + 1 + 1, 1, none⟩ = some (.int .i64 0) ∧ w.cell? ⟨g + 1 + 1, 2, none⟩ = some (.int .i64 0) ∧ w.cell? ⟨g + 1 + 1, 3, none⟩ = some (.string noBytes) ∧
      w.frozen? ⟨g + 1 + 1, 0, none⟩ = false ∧ w.frozen? ⟨g + 1 + 1, 1, none⟩ = false ∧ w.frozen? ⟨g + 1 + 1, 2, none⟩ = false ∧ w.frozen? ⟨g + 1 + 1, 3, none⟩ = false) ∧ g + 1 + 1 < w.heap.size :=
  ⟨⟨h.1.cell 0, h.1.cell 1, h.1.cell 2, h.1.frozen 0, h.1.frozen 1, h.1.frozen 2⟩, ⟨h.2.1.cell 0, h.2.1.cell 1, h.2.1.cell 2, h.2.1.frozen 0, h.2.1.frozen 1, h.2.1.frozen 2⟩,
   ⟨h.2.2.cell 0, h.2.2.cell 1, h.2.2.cell 2, h.2.2.cell 3, h.2.2.frozen 0, h.2.2.frozen 1, h.2.2.frozen 2, h.2.2.frozen 3⟩, h.2.2.lt⟩

theorem results_ccx {fn : Func} {p q x : Tmp} {ty tz : TypeId} (h : fn.results = #[.cell p ty, .cell q tz, .tmp x]) (tmps : Array Value) (P : Program) (w : World) :
    (results fn tmps).run P w = ((asAddr (tmps.getD p undef)).run P w).andThen fun a w₁ => ((loadVar ty a).run P w₁).andThen fun v w₂ => ((asAddr (tmps.getD q undef)).run P w₂).andThen fun a' w₃ => ((loadVar tz a').run P w₃).andThen fun v' w₄ => .ok (.tuple #[v, v', tmps.getD x undef]) w₄ := by
  simp only [results, h]
  simp [Sem.run_bind, Result.andThen]

section
variable (A : Option Addr) (n c : Nat) (ss : List ByteArray) (tk kn : Int) (m : ByteArray) (w : World)

set_option maxHeartbeats 1000000 in
theorem send_bad (hn : n ≤ maxLen) (hr : Rd w w.heap.size 1 A n (ss.map Value.string)) (hg : goodB ⟨ss, tk, kn⟩ = false) :
    Calls Try.prog 27 #[sideVal (.slice A n c) ⟨ss, tk, kn⟩, .string m] w (SendOut w ⟨⟨[], 0, 0⟩, zeroFr, 1⟩) := by
  obtain ⟨W, hW⟩ : ∃ W, W = ((w.alloc (.cells #[.slice A n c, .int .i64 tk, .int .i64 kn] 33)).alloc (.cells #[.slice none 0 0, .int .i64 0, .int .i64 0] 33)).alloc (.cells #[.int .i64 0, .int .i64 0, .int .i64 0, .string noBytes] 44) := ⟨_, rfl⟩
  have hrW : Rd W W.heap.size 1 A n (ss.map Value.string) := by rw [hW]; exact (((hr.alloc (Nat.le_refl _) _).alloc (by simp) _).alloc (by simp; omega) _).mono (by simp; omega)
  have hB : B1 W w.heap.size (.slice A n c) (.int .i64 tk) (.int .i64 kn) := by rw [hW]; exact B1.new _ _ _ _
  have hz : W.heap.size = w.heap.size + 1 + 1 + 1 := by rw [hW]; simp
  have hbl : Below w.heap.size w W := by rw [hW]; exact (((Below.refl _ w).alloc (Nat.le_refl _) _).alloc (by simp) _).alloc (by simp; omega) _
  have HB := Lib.hid hB
  have HZ := Lib.hid hz
  have HL := Lib.hid hbl
  have HG := Lib.hid hg
  have HW := Lib.hid hW
  clear hB hz hbl hg hW
  unfold sideVal
  go_enter Try.func27, Try.ntmps27
  go_wp2_with fail
  have hW := HW.out
  unfold noBytes at hW
  rw [← hW]
  clear hW
  refine (good_any A n c ⟨ss, tk, kn⟩ W hn hrW).mono ?_
  rintro e w1 ⟨rfl, hb1⟩
  have HB1 := Lib.hid hb1
  obtain ⟨⟨q0, q1, q2, z0, z1, z2⟩, ⟨f0, f1, f2, e0, e1, e2⟩, ⟨r0, r1, r2, r3, y0, y1, y2, y3⟩, hs⟩ := (HB.out.below hb1 (by have := HZ.out; omega)).out
  clear hb1
  rw [HG.out]
  go_wp2
  refine bodyPost_ret (v := .tuple #[sideVal (.slice none 0 0) ⟨[], 0, 0⟩, zeroFr.val, .int .i64 1]) (by simp [results, Try.results27, go_sem, sideVal, f0, f1, f2, r0, r1, r2, r3, noBytes, zeroFr, Fr.val]) rfl ⟨none, 0, rfl, Nat.le_refl _, Nat.zero_le _, World.ownsRow_nil _ _ _ _, ?_⟩
  repeat (refine Below.setCell ?_ (by first | (simp; done) | (simp; omega)) _)
  exact HL.out.trans (HB1.out.mono (by have := HZ.out; omega))
end

end Go.Proofs.Ytnbndhmdfheikaa
