/- Walk: wakes answers true. -/
import Derived.Test.YtkklghdmnkdofaaK1
namespace Go.Proofs.Ytkklghdmnkdofaa
open Go.RowKit

theorem good_one : goodB ⟨[aBytes], 0, 0⟩ = true := by decide

set_option maxHeartbeats 1000000 in
theorem wakes_any (w : World) : Calls Try.prog 9 #[] w fun e w' => e = .returned (.bool true) ∧ Below w.heap.size w w' := by
  have hsend := send_any none 0 0 ⟨[], 0, 0⟩ aBytes w (Nat.zero_le _) (Rd.nil _ _ _ _)
  rw [wake_send] at hsend
  have HS := Lib.hid hsend
  clear hsend
  go_enter Try.func9, Try.ntmps9
  go_wp2_with fail
  refine (HS.out).mono ?_
  rintro e w1 ⟨A1, c1, rfl, hc1, hm1, hown, hb⟩
  unfold sideVal Fr.val aBytes
  have HO := Lib.hid hown
  have HB := Lib.hid hb
  clear hown hb
  have hs1 : w.heap.size ≤ w1.heap.size := HB.out.size
  dsimp only [List.length_cons, List.length_nil, Nat.zero_add] at hc1 ⊢
  have htake := take_any none 0 0 ⟨[], 0, 0⟩ ⟨1, 1, 0, aBytes⟩ ((w1.alloc (.cells #[.slice A1 1 c1, .int .i64 0, .int .i64 0] 24)).alloc (.cells #[.int .i64 1, .int .i64 1, .int .i64 0, .string aBytes] 26)) (Nat.zero_le _) (Rd.nil _ _ _ _)
  rw [wake_take] at htake
  have HT := Lib.hid htake
  clear htake
  go_wp2_with fail
  refine (HT.out).mono ?_
  rintro e w3 ⟨A3, c3, A4, c4, rfl, _, _, _, _, _, _, hb3⟩
  have HB3 := Lib.hid hb3
  have hz3 := hb3.size
  simp only [World.size_alloc] at hz3
  obtain ⟨q0, q1, q2, z0, z1, z2, hg⟩ := (((Bk.new w1 24 #[.slice A1 1 c1, .int .i64 0, .int .i64 0]).alloc _).below hb3 (by simp; omega)).three
  have hw1 : Below w.heap.size w w3 := (((HB.out.alloc hs1 _).alloc (by simp; omega) _)).trans (hb3.mono (by simp; omega))
  have ho3 : w3.ownsRow w.heap.size 9 1 (.slice A1 1 c1) 1 [.string aBytes] := by
    have h := ((HO.out.alloc (.cells #[.slice A1 1 c1, .int .i64 0, .int .i64 0] 24)).alloc (.cells #[.int .i64 1, .int .i64 1, .int .i64 0, .string aBytes] 26))
    exact h.kept (row := none) ⟨hb3.os, hb3.tape, hb3.output, hb3.size, fun j hj _ => hb3.block j hj⟩ (by cases (Value.slice A1 1 c1).ownBlock <;> simp)
  have HO3 := Lib.hid ho3
  have HW1 := Lib.hid hw1
  clear hb3 ho3 hw1
  unfold sideVal aBytes
  dsimp only [List.length_cons, List.length_nil]
  have hleft := left_any A1 1 c1 ⟨[aBytes], 0, 0⟩ (w3.alloc (.cells #[.slice A3 0 c3, .int .i64 1, .int .i64 0] 24)) (by simp [maxLen]) (((Rd.of_own HO3.out).alloc (Nat.le_refl _) _).mono (by simp))
  have hln : leftN ⟨[aBytes], 0, 0⟩ = 1 := by rw [leftN, good_one]; rfl
  rw [show LeftOut (w3.alloc (.cells #[.slice A3 0 c3, .int .i64 1, .int .i64 0] 24)) ⟨[aBytes], 0, 0⟩ = fun e w' => e = .returned (.int .i64 1) ∧ Below (w3.heap.size + 1) (w3.alloc (.cells #[.slice A3 0 c3, .int .i64 1, .int .i64 0] 24)) w' from by
    funext e w'; unfold LeftOut; rw [hln]; simp] at hleft
  have HLF := Lib.hid hleft
  clear hleft hln
  go_wp2_with fail
  refine (HLF.out).mono ?_
  rintro e w5 ⟨rfl, hb5⟩
  have HB5 := Lib.hid hb5
  clear hb5
  go_wp2
  go_ret
  exact ⟨rfl, (HW1.out.alloc (by omega) _).trans (HB5.out.mono (by omega))⟩

end Go.Proofs.Ytkklghdmnkdofaa
