/- Walk: Take of the program: what it answers, its memory; a bad end. -/
import Derived.Test.YtnbndhmdfheikaaW7
import Derived.Deep.Cut
namespace Go.Proofs.Ytnbndhmdfheikaa
open Go.RowKit

def noBytes : ByteArray := ⟨#[]⟩
structure TakeR where
  s : Sd
  m : ByteArray
  l : List Fr
  e : Int

def Sd.knows (s : Sd) (t : Int) : Sd := ⟨s.sent, s.taken, if s.known < t ∧ t ≤ s.sent.length then t else s.known⟩

def takeS (s : Sd) (f : Fr) : TakeR :=
  if goodB s = false then ⟨⟨[], 0, 0⟩, noBytes, [], 1⟩
  else if validB f = false then ⟨⟨[], 0, 0⟩, noBytes, [], 11⟩
  else if f.kind = 1 ∧ f.num = s.taken + 1 then
    ⟨⟨s.sent, s.taken + 1, (s.knows f.taken).known⟩, f.body, [], 0⟩
  else if f.kind = 2 then ⟨s.knows f.taken, noBytes, s.again f.num, 0⟩
  else if s.taken < f.num then ⟨s.knows f.taken, noBytes, [⟨2, s.taken + 1, s.taken, noBytes⟩], 0⟩
  else ⟨s.knows f.taken, noBytes, [], 0⟩

/-- What Take leaves. -/
def TakeOut (w : World) (r : TakeR) (e : Ending) (w' : World) : Prop :=
  ∃ A c A2 c2, e = .returned (.tuple #[sideVal (.slice A r.s.sent.length c) r.s, .string r.m, .slice A2 r.l.length c2, .int .i64 r.e]) ∧ r.s.sent.length ≤ c ∧ c ≤ maxLen ∧ r.l.length ≤ c2 ∧ c2 ≤ maxLen ∧
    w'.ownsRow w.heap.size 9 1 (.slice A r.s.sent.length c) r.s.sent.length (r.s.sent.map Value.string) ∧ w'.ownsRow w.heap.size 44 4 (.slice A2 r.l.length c2) r.l.length (frs r.l) ∧ Below w.heap.size w w'

/-- The three blocks that Take lays: the end, the frame, the result. -/
def B0 (w : World) (g : Nat) (v0 v1 v2 f0 f1 f2 f3 : Value) : Prop :=
  Bk w g 33 #[v0, v1, v2] ∧ Bk w (g + 1) 44 #[f0, f1, f2, f3] ∧ Bk w (g + 1 + 1) 33 #[.slice none 0 0, .int .i64 0, .int .i64 0]
theorem B0.below {w w' : World} {B g : Nat} {v0 v1 v2 f0 f1 f2 f3 : Value} (h : B0 w g v0 v1 v2 f0 f1 f2 f3) (hb : Below B w w') (hg : g + 2 < B) : B0 w' g v0 v1 v2 f0 f1 f2 f3 :=
  ⟨h.1.below hb (by omega), h.2.1.below hb (by omega), h.2.2.below hb (by omega)⟩
theorem B0.set0 {w : World} {g : Nat} {v0 v1 v2 f0 f1 f2 f3 : Value} (h : B0 w g v0 v1 v2 f0 f1 f2 f3) (u : Value) : B0 (w.setCell ⟨g, 0, none⟩ u) g u v1 v2 f0 f1 f2 f3 :=
  ⟨h.1.set 0 u, h.2.1.far (p := ⟨g, 0, none⟩) (by simp) u, h.2.2.far (p := ⟨g, 0, none⟩) (by simp; omega) u⟩
theorem B0.set1 {w : World} {g : Nat} {v0 v1 v2 f0 f1 f2 f3 : Value} (h : B0 w g v0 v1 v2 f0 f1 f2 f3) (u : Value) : B0 (w.setCell ⟨g, 1, none⟩ u) g v0 u v2 f0 f1 f2 f3 :=
  ⟨h.1.set 1 u, h.2.1.far (p := ⟨g, 1, none⟩) (by simp) u, h.2.2.far (p := ⟨g, 1, none⟩) (by simp; omega) u⟩
theorem B0.set2 {w : World} {g : Nat} {v0 v1 v2 f0 f1 f2 f3 : Value} (h : B0 w g v0 v1 v2 f0 f1 f2 f3) (u : Value) : B0 (w.setCell ⟨g, 2, none⟩ u) g v0 v1 u f0 f1 f2 f3 :=
  ⟨h.1.set 2 u, h.2.1.far (p := ⟨g, 2, none⟩) (by simp) u, h.2.2.far (p := ⟨g, 2, none⟩) (by simp; omega) u⟩
theorem B0.new (w : World) (v0 v1 v2 f0 f1 f2 f3 : Value) : B0 (((w.alloc (.cells #[v0, v1, v2] 33)).alloc (.cells #[f0, f1, f2, f3] 44)).alloc (.cells #[.slice none 0 0, .int .i64 0, .int .i64 0] 33)) w.heap.size v0 v1 v2 f0 f1 f2 f3 := by
  refine ⟨((Bk.new w _ _).alloc _).alloc _, ?_, ?_⟩
  · have := (Bk.new (w.alloc (.cells #[v0, v1, v2] 33)) 44 #[f0, f1, f2, f3]).alloc (.cells #[.slice none 0 0, .int .i64 0, .int .i64 0] 33)
    simpa using this
  · have := Bk.new ((w.alloc (.cells #[v0, v1, v2] 33)).alloc (.cells #[f0, f1, f2, f3] 44)) 33 #[.slice none 0 0, .int .i64 0, .int .i64 0]
    simpa using this
theorem B0.out {w : World} {g : Nat} {v0 v1 v2 f0 f1 f2 f3 : Value} (h : B0 w g v0 v1 v2 f0 f1 f2 f3) :
    (w.cell? ⟨g, 0, none⟩ = some v0 ∧ w.cell? ⟨g, 1, none⟩ = some v1 ∧ w.cell? ⟨g, 2, none⟩ = some v2 ∧ w.frozen? ⟨g, 0, none⟩ = false ∧ w.frozen? ⟨g, 1, none⟩ = false ∧ w.frozen? ⟨g, 2, none⟩ = false) ∧
    (w.cell? ⟨g + 1, 0, none⟩ = some f0 ∧ w.cell? ⟨g + 1, 1, none⟩ = some f1 ∧ w.cell? ⟨g + 1, 2, none⟩ = some f2 ∧ w.cell? ⟨g + 1, 3, none⟩ = some f3) ∧
    (w.cell? ⟨g + 1 + 1, 0, none⟩ = some (.slice none 0 0) ∧ w.cell? ⟨g + 1 + 1, 1, none⟩ = some (.int .i64 0) ∧ w.cell? ⟨g + 1 + 1, 2, none⟩ = some (.int .i64 0) ∧ w.frozen? ⟨g + 1 + 1, 0, none⟩ = false ∧ w.frozen? ⟨g + 1 + 1, 1, none⟩ = false ∧ w.frozen? ⟨g + 1 + 1, 2, none⟩ = false) ∧ g + 1 + 1 < w.heap.size :=
  ⟨⟨h.1.cell 0, h.1.cell 1, h.1.cell 2, h.1.frozen 0, h.1.frozen 1, h.1.frozen 2⟩, ⟨h.2.1.cell 0, h.2.1.cell 1, h.2.1.cell 2, h.2.1.cell 3⟩, ⟨h.2.2.cell 0, h.2.2.cell 1, h.2.2.cell 2, h.2.2.frozen 0, h.2.2.frozen 1, h.2.2.frozen 2⟩, h.2.2.lt⟩

theorem results_four {fn : Func} {p t u x : Tmp} {ty : TypeId} (h : fn.results = #[.cell p ty, .tmp t, .tmp u, .tmp x]) (tmps : Array Value) (P : Program) (w : World) :
    (results fn tmps).run P w = ((asAddr (tmps.getD p undef)).run P w).andThen fun a w₁ => ((loadVar ty a).run P w₁).andThen fun v w₂ => .ok (.tuple #[v, tmps.getD t undef, tmps.getD u undef, tmps.getD x undef]) w₂ := by
  simp only [results, h]
  simp [Sem.run_bind, Result.andThen]

section
variable (A : Option Addr) (n c : Nat) (ss : List ByteArray) (tk kn k num t : Int) (b : ByteArray) (w : World)

set_option maxHeartbeats 1000000 in
theorem take_bad (hn : n ≤ maxLen) (hr : Rd w w.heap.size 1 A n (ss.map Value.string)) (hg : goodB ⟨ss, tk, kn⟩ = false) :
    Calls Try.prog 31 #[sideVal (.slice A n c) ⟨ss, tk, kn⟩, (Fr.mk k num t b).val] w (TakeOut w ⟨⟨[], 0, 0⟩, noBytes, [], 1⟩) := by
  obtain ⟨W, hW⟩ : ∃ W, W = ((w.alloc (.cells #[.slice A n c, .int .i64 tk, .int .i64 kn] 33)).alloc (.cells #[.int .i64 k, .int .i64 num, .int .i64 t, .string b] 44)).alloc (.cells #[.slice none 0 0, .int .i64 0, .int .i64 0] 33) := ⟨_, rfl⟩
  have hrW : Rd W W.heap.size 1 A n (ss.map Value.string) := by rw [hW]; exact (((hr.alloc (Nat.le_refl _) _).alloc (by simp) _).alloc (by simp; omega) _).mono (by simp; omega)
  have hB : B0 W w.heap.size (.slice A n c) (.int .i64 tk) (.int .i64 kn) (.int .i64 k) (.int .i64 num) (.int .i64 t) (.string b) := by rw [hW]; exact B0.new _ _ _ _ _ _ _ _
  have hz : W.heap.size = w.heap.size + 1 + 1 + 1 := by rw [hW]; simp
  have hbl : Below w.heap.size w W := by rw [hW]; exact (((Below.refl _ w).alloc (Nat.le_refl _) _).alloc (by simp) _).alloc (by simp; omega) _
  have HB := Lib.hid hB
  have HZ := Lib.hid hz
  have HL := Lib.hid hbl
  have HG := Lib.hid hg
  clear hB hz hbl hg
  unfold sideVal Fr.val
  go_enter Try.func31, Try.ntmps31
  go_wp2_with fail
  rw [← hW]
  clear hW
  refine (good_any A n c ⟨ss, tk, kn⟩ W hn hrW).mono ?_
  rintro e w1 ⟨rfl, hb1⟩
  have HB1 := Lib.hid hb1
  obtain ⟨⟨q0, q1, q2, z0, z1, z2⟩, ⟨f0, f1, f2, f3⟩, ⟨r0, r1, r2, y0, y1, y2⟩, hs⟩ := (HB.out.below hb1 (by have := HZ.out; omega)).out
  clear hb1
  rw [HG.out]
  go_wp2
  refine bodyPost_ret (v := .tuple #[sideVal (.slice none 0 0) ⟨[], 0, 0⟩, .string noBytes, .slice none 0 0, .int .i64 1]) (by simp [results, Try.results31, go_sem, sideVal, r0, r1, r2, noBytes]) rfl ⟨none, 0, none, 0, rfl, Nat.le_refl _, Nat.zero_le _, Nat.le_refl _, Nat.zero_le _, World.ownsRow_nil _ _ _ _, World.ownsRow_nil _ _ _ _, ?_⟩
  repeat (refine Below.setCell ?_ (by first | (simp; done) | (simp; omega)) _)
  exact HL.out.trans (HB1.out.mono (by have := HZ.out; omega))
end

end Go.Proofs.Ytnbndhmdfheikaa
