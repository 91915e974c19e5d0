import Derived.Test.YtnbndhmdfheikaaW4
import Derived.ChangeAlike
import Derived.Deep.RegionLaw
import Derived.Deep.DeepMust
import Derived.Deep.RegionHeld3
namespace Go.Proofs.Ytnbndhmdfheikaa
open Go.RowKit

/-- The message number q of an end. -/
def Sd.msg (s : Sd) (q : Int) : ByteArray := s.sent.getD (q.toNat - 1) ⟨#[]⟩
def Sd.data (s : Sd) (q : Int) : Fr := ⟨1, q, s.taken, s.msg q⟩

set_option maxHeartbeats 400000 in
theorem data_any (A : Option Addr) (n c : Nat) (s : Sd) (q : Int) (w : World) (hn : n ≤ maxLen) (hr : Rd w w.heap.size 1 A n (s.sent.map Value.string)) (h1 : 1 ≤ q) (h2 : q ≤ n) :
    Calls Try.prog 42 #[sideVal (.slice A n c) s, .int .i64 q] w fun e w' => e = .returned (s.data q).val ∧ Below w.heap.size w w' := by
  unfold maxLen at hn
  have hl : s.sent.length = n := by simpa using hr.1
  obtain ⟨ss, tk, kn⟩ := s
  dsimp only at hl hr
  have HR := (((hr.alloc (Nat.le_refl _) (.cells #[.slice A n c, .int .i64 tk, .int .i64 kn] 33)).alloc (by simp) (.cells #[.int .i64 0, .int .i64 0, .int .i64 0, .string ⟨#[]⟩] 44)).mono (B' := w.heap.size + 1 + 1) (by omega))
  obtain ⟨m, hm⟩ : ∃ m, ss[(q.toNat - 1)]? = some m := ⟨ss[(q.toNat - 1)]'(by omega), List.getElem?_eq_getElem _⟩
  obtain ⟨a, rfl, hb, hc⟩ := HR.cell (j := (q.toNat - 1)) (u := .string m) (by simp [hm])
  have hv : Sd.data ⟨ss, tk, kn⟩ q = ⟨1, q, tk, m⟩ := by simp [Sd.data, Sd.msg, List.getD, hm]
  rw [hv]
  unfold Fr.val sideVal
  clear HR hr hl hm hv
  go_enter Try.func42, Try.ntmps42
  go_wp2
  go_region
  go_wp2
  refine bodyPost_ret (v := .agg #[.int .i64 1, .int .i64 q, .int .i64 tk, .string m]) (by simp [results, Try.results42, go_sem]) rfl ⟨rfl, ?_⟩
  repeat (refine Below.setCell ?_ (by simp) _)
  exact (((Below.refl _ w).alloc (Nat.le_refl _) _).alloc (by simp) _).drew

set_option maxHeartbeats 400000 in
theorem rcopied_any (A : Option Addr) (n c : Nat) (s : Sd) (w : World) (hn : n * 16 ≤ 140737488355328) (hr : Rd w w.heap.size 1 A n (s.sent.map Value.string)) :
    Calls Try.prog 52 #[sideVal (.slice A n c) s] w (OwnSide w s) := by
  have hl : s.sent.length = n := by simpa using hr.1
  obtain ⟨ss, tk, kn⟩ := s
  dsimp only at hl hr
  subst hl
  obtain ⟨i0, hi, hz0, hz1, hz2⟩ := info_parts info9
  have HR := (((hr.alloc (Nat.le_refl _) (.cells #[.slice A ss.length c, .int .i64 tk, .int .i64 kn] 33)).alloc (by simp) (.cells #[.slice none 0 0, .int .i64 0, .int .i64 0] 33)).mono (B' := w.heap.size + 1 + 1) (by omega))
  clear hr
  obtain ⟨W, hW⟩ : ∃ W, W = (w.alloc (.cells #[.slice A ss.length c, .int .i64 tk, .int .i64 kn] 33)).alloc (.cells #[.slice none 0 0, .int .i64 0, .int .i64 0] 33) := ⟨_, rfl⟩
  rw [← hW] at HR
  have hz : W.heap.size = w.heap.size + 1 + 1 := by rw [hW]; simp
  have hr0 : Rd (W.alloc (.cells #[] 9)).drew (w.heap.size + 1 + 1) 1 A ss.length (ss.map Value.string) := (HR.alloc (by omega) _).drew
  have ho0 : (W.alloc (.cells #[] 9)).drew.ownsRow (w.heap.size + 1 + 1) 9 1 (.slice (some ⟨w.heap.size + 1 + 1, 0, none⟩) 0 0) 0 [] := by
    rw [← hz]; exact (World.ownsRow_made W #[] 0 (Nat.le_refl _) (Nat.zero_le _) (by simp)).drew
  have hb0 : Bk (W.alloc (.cells #[] 9)).drew w.heap.size 33 #[.slice A ss.length c, .int .i64 tk, .int .i64 kn] := by
    rw [hW]; exact ((((Bk.new w 33 _).alloc _).alloc _).drew)
  have hb1 : Bk (W.alloc (.cells #[] 9)).drew (w.heap.size + 1) 33 #[.slice none 0 0, .int .i64 0, .int .i64 0] := by
    rw [hW]; have := (((Bk.new (w.alloc (.cells #[.slice A ss.length c, .int .i64 tk, .int .i64 kn] 33)) 33 #[.slice none 0 0, .int .i64 0, .int .i64 0]).alloc (.cells #[] 9)).drew); simpa using this
  have hbl : Below w.heap.size w (W.alloc (.cells #[] 9)).drew := by
    rw [hW]; exact ((((Below.refl _ w).alloc (Nat.le_refl _) _).alloc (by simp) _).alloc (by simp; omega) _).drew
  have hne0 : some w.heap.size ≠ (Value.slice (some (⟨w.heap.size + 1 + 1, 0, none⟩ : Addr)) 0 0).ownBlock := by
    intro h; have := Option.some.inj h; simp at this; omega
  have hne1 : some (w.heap.size + 1) ≠ (Value.slice (some (⟨w.heap.size + 1 + 1, 0, none⟩ : Addr)) 0 0).ownBlock := by
    intro h; have := Option.some.inj h; simp at this
  have K0 : Hid (∀ w1, (W.alloc (.cells #[] 9)).drew.grownBy w1 (Value.slice (some (⟨w.heap.size + 1 + 1, 0, none⟩ : Addr)) 0 0).ownBlock → Bk w1 w.heap.size 33 #[.slice A ss.length c, .int .i64 tk, .int .i64 kn]) := fun w1 h => hb0.grown h hne0
  have K1 : Hid (∀ w1, (W.alloc (.cells #[] 9)).drew.grownBy w1 (Value.slice (some (⟨w.heap.size + 1 + 1, 0, none⟩ : Addr)) 0 0).ownBlock → Bk w1 (w.heap.size + 1) 33 #[.slice none 0 0, .int .i64 0, .int .i64 0]) := fun w1 h => hb1.grown h hne1
  have KL : Hid (∀ w1, (W.alloc (.cells #[] 9)).drew.grownBy w1 (Value.slice (some (⟨w.heap.size + 1 + 1, 0, none⟩ : Addr)) 0 0).ownBlock → Below w.heap.size w w1) := fun w1 h =>
    hbl.grown h (by rw [hW]; simp; omega) (fun k hk => by have := Option.some.inj hk; simp at this; omega)
  clear hb0 hb1 hbl hz hne0 hne1
  subst hW
  unfold sideVal
  go_enter Try.func52, Try.ntmps52
  go_wp2_with fail
  go_region_held3 (fun w' => w'.cell? ⟨w.heap.size, 0, none⟩ = some (.slice A ss.length c) ∧ w'.cell? ⟨w.heap.size, 1, none⟩ = some (.int .i64 tk) ∧ w'.cell? ⟨w.heap.size, 2, none⟩ = some (.int .i64 kn))
    (first
      | go_keep
      | (refine ⟨?_, ?_, ?_⟩ <;> assumption))
    ((refine step_append_rd _ (by rfl) (.tmp 3) (.tmp 5) _ (by rfl) (w.heap.size + 1 + 1) 9 i0 _ 1 16 Try.underlying30 hi hz0 hz1 hz2 rfl (by omega) _ 0 [] (by rfl) (by exact ho0) (w.heap.size + 1 + 1) A ss.length c _ (by rfl) (by exact hr0) (strs_one ss) (by simp only [maxLen]; omega) (by omega) (by simp) ?_; intro A1 c1 w1 h1 h2 hown1 hg1 hat1; obtain ⟨q0, q1, q2, z0, z1, z2, hg⟩ := (K0.out _ hg1).three; obtain ⟨r0, r1, r2, y0, y1, y2, hg'⟩ := (K1.out _ hg1).three; have HO := Lib.hid hown1; have HG := Lib.hid hg1; clear hown1 hg1 hat1))
  go_wp2
  have H1 := HO.out
  refine bodyPost_ret (v := sideVal (.slice A1 ss.length c1) ⟨ss, tk, kn⟩) (by simp [results, Try.results52, go_sem, sideVal, r0, r1, r2]) rfl ⟨A1, c1, rfl, by simpa using h1, h2, ?_, ?_⟩
  · refine own_mono (base := w.heap.size + 1 + 1) ?_ (by omega)
    repeat (refine ownsRow_setCell_below ?_ (by first | (simp; done) | (simp; omega)) _)
    simpa using H1
  · repeat (refine Below.setCell ?_ (by simp) _)
    exact KL.out _ HG.out

end Go.Proofs.Ytnbndhmdfheikaa
