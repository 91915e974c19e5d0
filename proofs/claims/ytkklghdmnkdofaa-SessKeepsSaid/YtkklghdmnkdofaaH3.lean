/- Walk of SessKeeps. -/
import Derived.Test.YtkklghdmnkdofaaH2
import Derived.Deep.DeepCutAuto
import Derived.Deep.CutBlock
import Derived.Deep.CutRange
import Derived.StillTailTactics
namespace Go.Proofs.Ytkklghdmnkdofaa
open Go.RowKit

set_option maxRecDepth 1000000 in
set_option maxHeartbeats 8000000 in
theorem keeps_walk (A : Option Addr) (n c : Nat) (s : Sd) (f : Fr) (msg : ByteArray) (w : World) (hn16 : (n + 2) * 16 ≤ 140737488355328) (hr : Rd w w.heap.size 1 A n (s.sent.map Value.string)) :
    Calls Try.prog 4 #[sideVal (.slice A n c) s, f.val, .string msg] w fun e w' => e = .returned (.bool true) ∧ Below w.heap.size w w' := by
  have hln : s.sent.length = n := by simpa using hr.1
  have hnm : n ≤ maxLen := by unfold maxLen; omega
  obtain ⟨W, hW⟩ : ∃ W, W = (w.alloc (.cells #[.slice A n c, .int .i64 s.taken, .int .i64 s.known] 24)).alloc (.cells #[.int .i64 f.kind, .int .i64 f.num, .int .i64 f.taken, .string f.body] 26) := ⟨_, rfl⟩
  obtain ⟨gs, hgs⟩ : ∃ gs, gs = w.heap.size := ⟨_, rfl⟩
  have hB0 : Bk W gs 24 #[.slice A n c, .int .i64 s.taken, .int .i64 s.known] := by rw [hW, hgs]; exact (Bk.new w _ _).alloc _
  have hB1 : Bk W (gs + 1) 26 #[.int .i64 f.kind, .int .i64 f.num, .int .i64 f.taken, .string f.body] := by rw [hW, hgs]; exact Bk.second _ _ _ _
  have hbl : Below gs w W := by rw [hW, hgs]; exact ((Below.refl _ w).alloc (Nat.le_refl _) _).alloc (by simp) _
  rw [← hgs] at hr
  have HRw := Lib.hid hr
  have HLN := Lib.hid hln
  have HGS := Lib.hid hgs
  obtain ⟨⟨sa, fa, ra⟩, hra⟩ : ∃ r, r = sendS s msg := ⟨_, rfl⟩
  obtain ⟨⟨sb, mb, lb, rb⟩, hrb⟩ : ∃ r, r = takeS s f := ⟨_, rfl⟩
  have HA : Hid (∀ (A' : Option Addr) (c' : Nat) (W' : World), Rd W' W'.heap.size 1 A' n (s.sent.map Value.string) → Calls Try.prog 16 #[sideVal (.slice A' n c') s, .string msg] W' (SendOut W' ⟨sa, fa, ra⟩)) := fun A' c' W' h => by rw [hra]; exact send_any A' n c' s msg W' hnm h
  have HT : Hid (∀ (A' : Option Addr) (c' : Nat) (W' : World), Rd W' W'.heap.size 1 A' n (s.sent.map Value.string) → Calls Try.prog 10 #[sideVal (.slice A' n c') s, f.val] W' (TakeOut W' ⟨sb, mb, lb, rb⟩)) := fun A' c' W' h => by rw [hrb]; exact take_any A' n c' s f W' hnm h
  have HU : Hid (∀ (A' : Option Addr) (c' : Nat) (W' : World), Rd W' W'.heap.size 1 A' n (s.sent.map Value.string) → Calls Try.prog 11 #[sideVal (.slice A' n c') s, f.val] W' (TakeOut W' ⟨sb, mb, lb, rb⟩)) := fun A' c' W' h => by rw [hrb]; exact rtake_any A' n c' s f W' hnm h
  have hlbn : sb.sent.length ≤ n := by have := take_len s f; rw [← hrb, hln] at this; exact this
  have HSb : Hid (∀ (A' B' : Option Addr) (c' d' : Nat) (W' : World), Rd W' W'.heap.size 1 A' sb.sent.length (sb.sent.map Value.string) → Rd W' W'.heap.size 1 B' sb.sent.length (sb.sent.map Value.string) → Calls Try.prog 12 #[sideVal (.slice A' sb.sent.length c') sb, sideVal (.slice B' sb.sent.length d') sb] W' fun e w' => e = .returned (.bool true) ∧ Below W'.heap.size W' w') := fun A' B' c' d' W' h1 h2 => same_any A' B' c' d' sb W' (by omega) h1 h2
  have HSm : Hid (∀ (A' B' : Option Addr) (c' d' : Nat) (W' : World), Rd W' W'.heap.size 1 A' n (s.sent.map Value.string) → Rd W' W'.heap.size 1 B' n (s.sent.map Value.string) → Calls Try.prog 12 #[sideVal (.slice A' n c') s, sideVal (.slice B' n d') s] W' fun e w' => e = .returned (.bool true) ∧ Below W'.heap.size W' w') := fun A' B' c' d' W' h1 h2 => by
    have := same_any A' B' c' d' s W' (by rw [hln]; exact hnm) (by rw [hln]; exact h1) (by rw [hln]; exact h2)
    rw [hln] at this
    exact this
  clear hr hln hra hrb
  unfold sideVal Fr.val
  go_enter Try.func4, Try.ntmps4
  go_wp2_with fail
  rw [← hW]
  clear hW
  refine (wakes_any W).mono ?_
  rintro e w1 ⟨rfl, hb1⟩
  have HBa1 : Hid (Bk w1 gs 24 #[.slice A n c, .int .i64 s.taken, .int .i64 s.known]) := hB0.below hb1 hB0.lt
  have HBb1 : Hid (Bk w1 (gs + 1) 26 #[.int .i64 f.kind, .int .i64 f.num, .int .i64 f.taken, .string f.body]) := hB1.below hb1 hB1.lt
  have HL1 : Hid (Below gs w w1) := hbl.trans (hb1.mono (by rw [hgs]; exact hbl.size))
  clear hb1 hB0 hB1 hbl
  rw [← hgs]
  clear hgs
  go_upto_region 3 with (fail)
  refine keepsR3 gs A n c s w1 _ _ _ _ _ _ _ _ _ _ _ _ _ _ _ _ _ _ _ _ _ _ _ _ _ _ _ _ _ _ _ _ _ _ _ _ _ _ _ _ _ _ _ _ _ _ _ _ _ _ _ _ _ _ _ _ _ _ _ _ _ _ _ _ _ _ _ _ _ _ _ _ _ _ _ _ _ _ _ _ _ _ _ _ _ _ _ _ _ _ _ _ _ _ _ _ _ _ _ _ _ _ _ _ _ _ _ _ _ _ _ _ _ _ _ _ _ _ _ _ _ _ _ _ _ _ _ _ _ _ _ _ _ _ _ _ _ _ _ _ _ _ _ _ _ _ _ _ _ _ _ _ _ _ _ _ _ _ _ _ _ hn16 HBa1.out ((HRw.out.below HL1.out).mono (Nat.le_of_lt HBa1.out.lt)) ?_
  intros
  rename_i V1 hm
  obtain ⟨gm, Am, cm, rfl, hgm, hBm, hcm, hcm2, hom, hb1⟩ := hm
  obtain ⟨L, hL⟩ : ∃ L, L = V1.heap.size := ⟨_, rfl⟩
  have hsz1 := hb1.size
  have hgf1 := HBb1.out.lt
  have HK1 : Hid (KP w L gs gm A n c s f Am cm V1) :=
    ⟨HBa1.out.below hb1 HBa1.out.lt, HBb1.out.below hb1 HBb1.out.lt, hBm, (HRw.out.below HL1.out).of_cells fun p hp => hb1.cell (by omega), own_mono hom (by omega), HL1.out.trans (hb1.mono (by omega)), by omega, by rw [hL]; exact hBm.lt, fun p hp => by rw [hL]; exact (own_lt hom p hp).2, Nat.le_of_eq hL⟩
  clear hBm hom hb1 HBa1 HBb1 HL1 hgm hsz1 hgf1
  obtain ⟨q0, q1, q2, z0, z1, z2, hg⟩ := HK1.out.hm.three
  go_wp2_with fail
  refine (HA.out Am cm V1 HK1.out.rm).mono ?_
  rintro e w2 ⟨Aa, ca, rfl, hca, hca2, hoa, hb2⟩
  clear q0 q1 q2 z0 z1 z2 hg hca hca2
  dsimp only at hoa
  rw [← hL] at hoa hb2
  unfold sideVal Fr.val
  obtain ⟨V2, hV2⟩ : ∃ V2, V2 = (w2.alloc (.cells #[.slice Aa sa.sent.length ca, .int .i64 sa.taken, .int .i64 sa.known] 24)).alloc (.cells #[.int .i64 fa.kind, .int .i64 fa.num, .int .i64 fa.taken, .string fa.body] 26) := ⟨_, rfl⟩
  obtain ⟨ga, hga⟩ : ∃ ga, ga = w2.heap.size := ⟨_, rfl⟩
  have hL2 : L ≤ w2.heap.size := by rw [hL]; exact hb2.size
  have hb12 : Below L V1 V2 := by rw [hV2]; exact (hb2.alloc hL2 _).alloc (by simp; omega) _
  have HK2 : Hid (KP w L gs gm A n c s f Am cm V2) := HK1.out.below hb12
  have HAv : Hid (Bk V2 ga 24 #[.slice Aa sa.sent.length ca, .int .i64 sa.taken, .int .i64 sa.known]) := by rw [hV2, hga]; exact (Bk.new _ _ _).alloc _
  have HAo : Hid (V2.ownsRow L 9 1 (.slice Aa sa.sent.length ca) sa.sent.length (sa.sent.map Value.string)) := by rw [hV2]; exact (hoa.alloc _).alloc _
  have HAl : Hid (∀ p, Aa = some p → p.block < ga) := fun p hp => by rw [hga]; exact (own_lt hoa p hp).2
  have hga1 : L ≤ ga := by omega
  have hga2 : ga < V2.heap.size := HAv.out.lt
  go_upto_region 5 with (fail)
  rw [← hV2, ← hga]
  clear hV2 hga hoa hb2 hb12 hL2 HK1
  obtain ⟨q0, q1, q2, z0, z1, z2, hg⟩ := HK2.out.hm.three
  obtain ⟨f0, f1, f2, f3, e0, e1, e2, e3, hg1⟩ := HK2.out.hf.four
  go_wp2_with fail
  refine (HT.out Am cm V2 HK2.out.rm).mono ?_
  rintro e w3 ⟨Ab, cb, X, cx, rfl, hcb, hcb2, hcx, hcx2, hob, hox, hb3⟩
  clear q0 q1 q2 z0 z1 z2 hg f0 f1 f2 f3 e0 e1 e2 e3 hg1 hcb hcb2 hcx hcx2
  dsimp only at hob hox
  unfold sideVal
  obtain ⟨V3, hV3⟩ : ∃ V3, V3 = w3.alloc (.cells #[.slice Ab sb.sent.length cb, .int .i64 sb.taken, .int .i64 sb.known] 24) := ⟨_, rfl⟩
  obtain ⟨gb, hgb⟩ : ∃ gb, gb = w3.heap.size := ⟨_, rfl⟩
  have hL4 := HK2.out.l4
  have hL3 := hb3.size
  have hb13 : Below V2.heap.size V2 V3 := by rw [hV3]; exact hb3.alloc hL3 _
  have HK3 : Hid (KP w L gs gm A n c s f Am cm V3) := HK2.out.below (hb13.mono hL4)
  have HAv3 : Hid (Bk V3 ga 24 #[.slice Aa sa.sent.length ca, .int .i64 sa.taken, .int .i64 sa.known]) := HAv.out.below hb13 hga2
  have HAo3 : Hid (V3.ownsRow L 9 1 (.slice Aa sa.sent.length ca) sa.sent.length (sa.sent.map Value.string)) := own_keep HAo.out fun p hp => hb13.block _ (by have := HAl.out p hp; omega)
  have HBv : Hid (Bk V3 gb 24 #[.slice Ab sb.sent.length cb, .int .i64 sb.taken, .int .i64 sb.known]) := by rw [hV3, hgb]; exact Bk.new _ _ _
  have HBo : Hid (V3.ownsRow V2.heap.size 9 1 (.slice Ab sb.sent.length cb) sb.sent.length (sb.sent.map Value.string)) := by rw [hV3]; exact hob.alloc _
  have HXo : Hid (V3.ownsRow V2.heap.size 26 4 (.slice X lb.length cx) lb.length (frs lb)) := by rw [hV3]; exact hox.alloc _
  have HBl : Hid (∀ p, Ab = some p → V2.heap.size ≤ p.block ∧ p.block < gb) := fun p hp => by rw [hgb]; exact own_lt hob p hp
  have HXl : Hid (∀ p, X = some p → V2.heap.size ≤ p.block ∧ p.block < gb) := fun p hp => by rw [hgb]; exact own_lt hox p hp
  have hgb1 : V2.heap.size ≤ gb := by omega
  have hgb2 : gb < V3.heap.size := HBv.out.lt
  go_upto_region 6 with (fail)
  rw [← hV3, ← hgb]
  clear hV3 hgb hob hox hb3 hb13 hL3 HK2 HAv HAo
  obtain ⟨q0, q1, q2, z0, z1, z2, hg⟩ := HK3.out.hm.three
  obtain ⟨f0, f1, f2, f3, e0, e1, e2, e3, hg1⟩ := HK3.out.hf.four
  go_wp2_with fail
  refine (HT.out Am cm V3 HK3.out.rm).mono ?_
  rintro e w4 ⟨Ac, cc, Y, cy, rfl, hcc, hcc2, hcy, hcy2, hoc, hoy, hb4⟩
  clear q0 q1 q2 z0 z1 z2 hg f0 f1 f2 f3 e0 e1 e2 e3 hg1 hcc hcc2 hcy hcy2
  dsimp only at hoc hoy
  unfold sideVal
  obtain ⟨V4, hV4⟩ : ∃ V4, V4 = w4.alloc (.cells #[.slice Ac sb.sent.length cc, .int .i64 sb.taken, .int .i64 sb.known] 24) := ⟨_, rfl⟩
  obtain ⟨gc, hgc⟩ : ∃ gc, gc = w4.heap.size := ⟨_, rfl⟩
  have hL5 := hb4.size
  have hb14 : Below V3.heap.size V3 V4 := by rw [hV4]; exact hb4.alloc hL5 _
  have hL6 := HK3.out.l4
  obtain ⟨hi, hhi⟩ : ∃ hi, hi = V3.heap.size := ⟨_, rfl⟩
  have HK4 : Hid (KP w L gs gm A n c s f Am cm V4) := HK3.out.below (hb14.mono hL6)
  have HKW4 : Hid (KW L hi V4 ga gb Aa sa.sent.length ca sa Ab sb.sent.length cb sb X lb.length cx V4) := by
    have hAo := own_keep HAo3.out (w' := V4) fun p hp => hb14.block _ (by have := HAl.out p hp; omega)
    have hBo := own_keep HBo.out (w' := V4) fun p hp => hb14.block _ (by have := HBl.out p hp; omega)
    have hXo := own_keep HXo.out (w' := V4) fun p hp => hb14.block _ (by have := HXl.out p hp; omega)
    exact ⟨Ex.refl _, HAv3.out.below hb14 (by omega), HBv.out.below hb14 hgb2, Ow.of hAo, Ow.of (own_mono hBo hL4), Ow.of (own_mono hXo hL4),
      fun p hp => by have := HAl.out p hp; omega, fun p hp => by have := HBl.out p hp; omega, fun p hp => by have := HXl.out p hp; omega, by omega⟩
  have HCv : Hid (Bk V4 gc 24 #[.slice Ac sb.sent.length cc, .int .i64 sb.taken, .int .i64 sb.known]) := by rw [hV4, hgc]; exact Bk.new _ _ _
  have HCo : Hid (V4.ownsRow hi 9 1 (.slice Ac sb.sent.length cc) sb.sent.length (sb.sent.map Value.string)) := by rw [hV4, hhi]; exact hoc.alloc _
  have HYo : Hid (V4.ownsRow hi 26 4 (.slice Y lb.length cy) lb.length (frs lb)) := by rw [hV4, hhi]; exact hoy.alloc _
  have hgc1 : hi ≤ gc := by omega
  have hgc2 : gc < V4.heap.size := HCv.out.lt
  have hLh : L ≤ hi := by omega
  have hh4 : hi ≤ V4.heap.size := by omega
  go_upto_region 7 with (fail)
  rw [← hV4, ← hgc]
  clear hV4 hgc hoc hoy hb4 hb14 hL5 hL6 HK3 HAv3 HAo3 HBv HBo HXo HAl HBl HXl hgb1 hgb2 hga1 hga2 hL4 hhi hL
  obtain ⟨a0, hA0, x0, x1⟩ := HK4.out.xy
  subst hA0
  obtain ⟨q0, q1, q2, z0, z1, z2, hg⟩ := HK4.out.hm.three
  obtain ⟨p0, p1, p2, y0, y1, y2, hgp⟩ := HK4.out.hs.three
  unfold maxLen at hnm hcm2
  have iw2 : IntKind.i64.wrap ((n : Int) + 2) = (n : Int) + 2 := IntWalk.i64_in _ (by omega)
  have iw1 : IntKind.i64.wrap ((n : Int) + 1) = (n : Int) + 1 := IntWalk.i64_in _ (by omega)
  have it2 : ((n : Int) + 2).toNat = n + 2 := by omega
  have it1 : ((n : Int) + 1).toNat = n + 1 := by omega
  have j0 : (0 : Int) ≤ (n : Int) := by omega
  have j1 : (0 : Int) ≤ (n : Int) + 1 := by omega
  have j2 : (0 : Int) ≤ (n : Int) + 2 := by omega
  have j3 : (n : Int) + 2 ≤ (cm : Int) := by omega
  have j4 : (n : Int) < (n : Int) + 2 := by omega
  have j5 : (n : Int) + 1 < (n : Int) + 2 := by omega
  go_upto_region 8 with (fail)
  go_wp2_with fail
  refine (HSm.out (some a0) A cm c V4 HK4.out.rm HK4.out.rs').mono ?_
  rintro e w5 ⟨rfl, hb5⟩
  have HK5 : Hid (KP w L gs gm A n c s f (some a0) cm w5) := HK4.out.below (hb5.mono HK4.out.l4)
  have HKW5 : Hid (KW L hi V4 ga gb Aa sa.sent.length ca sa Ab sb.sent.length cb sb X lb.length cx w5) := HKW4.out.below hb5
  clear q0 q1 q2 z0 z1 z2 hg p0 p1 p2 y0 y1 y2 hgp x0 x1 hb5
  obtain ⟨a0', hA0, x0, x1⟩ := HK5.out.xy
  have ha0 : a0' = a0 := (Option.some.inj hA0).symm
  subst ha0
  obtain ⟨q0, q1, q2, z0, z1, z2, hg⟩ := HK5.out.hm.three
  obtain ⟨p0, p1, p2, y0, y1, y2, hgp⟩ := HK5.out.hs.three
  go_upto_region 10 with (fail)
  clear q0 q1 q2 z0 z1 z2 hg p0 p1 p2 y0 y1 y2 hgp x0 x1
  have hla := HKW4.out.ra.len
  have hlb := HKW4.out.rb.len
  have hlx := HKW4.out.rx.len
  obtain ⟨q0, q1, q2, z0, z1, z2, hg⟩ := HKW5.out.a.three
  go_wp2
  go_loopw [100] (fun i wr => ∃ k : Nat, k ≤ sa.sent.length ∧ i = .int .i64 k ∧ KW L hi V4 ga gb Aa sa.sent.length ca sa Ab sb.sent.length cb sb X lb.length cx wr) (fun i _ => sa.sent.length - (intOf i).toNat)
  case atStart => exact ⟨0, Nat.zero_le _, rfl, HKW5.out⟩
  case round =>
    obtain ⟨k, hk, rfl, hkw⟩ := hrel
    have HKr := Lib.hid hkw
    clear hkw
    rename World => W6
    by_cases hlt : k < sa.sent.length
    · obtain ⟨a1, u1, hA1, c1, zz1, hl1, hset⟩ := HKr.out.cellA hlt
      have HSET := Lib.hid hset
      clear hset q0 q1 q2 z0 z1 z2 hg
      obtain ⟨q0, q1, q2, z0, z1, z2, hg⟩ := HKr.out.a.three
      rw [hA1] at q0
      have i1 : (k : Int) < (sa.sent.length : Int) := by omega
      have i2 : (0 : Int) ≤ (k : Int) := by omega
      have i3 : IntKind.i64.wrap ((k : Int) + 1) = (k : Int) + 1 := IntWalk.i64_in _ (by omega)
      go_wp2_with fail
      exact ⟨⟨k + 1, by omega, by push_cast; rfl, HSET.out _⟩, by simp only [intOf]; omega⟩
    have i0 : ¬ ((k : Int) < (sa.sent.length : Int)) := by omega
    clear q0 q1 q2 z0 z1 z2 hg
    obtain ⟨q0, q1, q2, z0, z1, z2, hg⟩ := HKr.out.b.three
    go_wp2
    go_loopw [111] (fun i wr => ∃ k : Nat, k ≤ sb.sent.length ∧ i = .int .i64 k ∧ KW L hi V4 ga gb Aa sa.sent.length ca sa Ab sb.sent.length cb sb X lb.length cx wr) (fun i _ => sb.sent.length - (intOf i).toNat)
    case atStart => exact ⟨0, Nat.zero_le _, rfl, HKr.out⟩
    case round =>
      obtain ⟨k', hk', rfl, hkw⟩ := hrel
      have HKr' := Lib.hid hkw
      clear hkw
      rename World => W7
      by_cases hlt' : k' < sb.sent.length
      · obtain ⟨a1, u1, hA1, c1, zz1, hl1, hset⟩ := HKr'.out.cellB hlt'
        have HSET := Lib.hid hset
        clear hset q0 q1 q2 z0 z1 z2 hg
        obtain ⟨q0, q1, q2, z0, z1, z2, hg⟩ := HKr'.out.b.three
        rw [hA1] at q0
        have i1 : (k' : Int) < (sb.sent.length : Int) := by omega
        have i2 : (0 : Int) ≤ (k' : Int) := by omega
        have i3 : IntKind.i64.wrap ((k' : Int) + 1) = (k' : Int) + 1 := IntWalk.i64_in _ (by omega)
        go_wp2_with fail
        exact ⟨⟨k' + 1, by omega, by push_cast; rfl, HSET.out _⟩, by simp only [intOf]; omega⟩
      have i0' : ¬ ((k' : Int) < (sb.sent.length : Int)) := by omega
      clear q0 q1 q2 z0 z1 z2 hg
      go_wp2
      go_loopw [121] (fun i wr => ∃ k : Nat, k ≤ lb.length ∧ i = .int .i64 k ∧ KW L hi V4 ga gb Aa sa.sent.length ca sa Ab sb.sent.length cb sb X lb.length cx wr) (fun i _ => lb.length - (intOf i).toNat)
      case atStart => exact ⟨0, Nat.zero_le _, rfl, HKr'.out⟩
      case round =>
        obtain ⟨k2, hk2, rfl, hkw⟩ := hrel
        have HKx := Lib.hid hkw
        clear hkw
        rename World => W8
        by_cases hlt2 : k2 < lb.length
        · obtain ⟨a1, u0, u1, u2, u3, hA1, ⟨c0, c1, c2, c3⟩, ⟨zz0, zz1, zz2, zz3⟩, ⟨y1, y2, y3, y4, y5, y6⟩, hl1, hset⟩ := HKx.out.cellX hlt2
          have HSET := Lib.hid hset
          clear hset
          have i1 : (k2 : Int) < (lb.length : Int) := by omega
          have i2 : (0 : Int) ≤ (k2 : Int) := by omega
          have i3 : IntKind.i64.wrap ((k2 : Int) + 1) = (k2 : Int) + 1 := IntWalk.i64_in _ (by omega)
          go_wp2_with fail
          exact ⟨⟨k2 + 1, by omega, by push_cast; rfl, HSET.out _ _ _ _⟩, by simp only [intOf]; omega⟩
        have i02 : ¬ ((k2 : Int) < (lb.length : Int)) := by omega
        go_upto_region 25 with (fail)
        obtain ⟨i0, hif, yz0, yz1, yz2⟩ := info_parts info9
        obtain ⟨xs, hrb⟩ := HKx.out.rb
        have HRB := Lib.hid hrb
        clear hrb
        have hdb := HKx.out.db
        have HEX := Lib.hid HKx.out.ex
        have HBv := Lib.hid HKx.out.b
        obtain ⟨hb1, hb2⟩ := HKx.out.hb
        have hz8 : L ≤ W8.heap.size := by have := HEX.out.size; have := HK4.out.l4; omega
        have HDB := Lib.hid hdb
        clear hdb
        obtain ⟨q0, q1, q2, z0, z1, z2, hg⟩ := HBv.out.three
        have hr2 : Rd (W8.alloc (.cells #[.string ⟨#[117]⟩, .string ⟨#[118]⟩] 9)) (W8.heap.size + 1) 1 (some ⟨W8.heap.size, 0, none⟩) 2 [.string ⟨#[117]⟩, .string ⟨#[118]⟩] := rd_two (Bk.new _ _ _)
        go_upto_region 26 with (at_builtin; go_must (refine wpList_append_rd _ rfl (.tmp 130) (.tmp 131) _ rfl L 9 i0 _ 1 16 Try.underlying22 hif yz0 yz1 yz2 rfl (by omega) _ sb.sent.length xs rfl (HRB.out.alloc _) (W8.heap.size + 1) _ 2 2 _ rfl hr2 (by simp [Value.oneCell']) (by unfold maxLen; omega) (by omega) (by simp; omega) ?_); intro A5 c5 w9 hc5 hm5 hown5 hg5 hat5; have HBv9 : Hid (Bk w9 gb 24 #[.slice Ab sb.sent.length cb, .int .i64 sb.taken, .int .i64 sb.known]) := (HBv.out.alloc _).grown hg5 (own_ne_bk HRB.out HBv.out (by decide)); have HEX9 : Hid (Ex L hi V4 w9) := (HEX.out.alloc _).grown hg5 (own_in HRB.out (fun p hp => (HDB.out p hp).1)); clear hown5 hg5 hat5 q0 q1 q2 z0 z1 z2 hg; obtain ⟨q0, q1, q2, z0, z1, z2, hg⟩ := HBv9.out.three)
        obtain ⟨V5, hV5⟩ : ∃ V5, V5 = w9.setCell ⟨gb, 0, none⟩ (.slice A5 (sb.sent.length + 2) c5) := ⟨_, rfl⟩
        have HEX5 : Hid (Ex L hi V4 V5) := by rw [hV5]; exact HEX9.out.set hb1 hb2 0 _
        have HBv5 : Hid (Bk V5 gb 24 #[.slice A5 (sb.sent.length + 2) c5, .int .i64 sb.taken, .int .i64 sb.known]) := by rw [hV5]; exact HBv9.out.set 0 _
        rw [← hV5]
        clear hV5 q0 q1 q2 z0 z1 z2 hg hr2
        have hl4 := HK4.out.l4
        have HK6 : Hid (KP w L gs gm A n c s f (some a0') cm V5) := HK4.out.below (HEX5.out.toL hl4)
        have HCv5 : Hid (Bk V5 gc 24 #[.slice Ac sb.sent.length cc, .int .i64 sb.taken, .int .i64 sb.known]) := HEX5.out.bk HCv.out (.inr hgc1)
        have HCo5 : Hid (V5.ownsRow hi 9 1 (.slice Ac sb.sent.length cc) sb.sent.length (sb.sent.map Value.string)) := HEX5.out.own HCo.out fun p hp => .inr (own_lt HCo.out p hp).1
        have HYo5 : Hid (V5.ownsRow hi 26 4 (.slice Y lb.length cy) lb.length (frs lb)) := HEX5.out.own HYo.out fun p hp => .inr (own_lt HYo.out p hp).1
        obtain ⟨q0, q1, q2, z0, z1, z2, hg⟩ := HK6.out.hs.three
        obtain ⟨f0, f1, f2, f3, e0, e1, e2, e3, hg1⟩ := HK6.out.hf.four
        go_wp2_with fail
        refine (HU.out A c V5 HK6.out.rs').mono ?_
        rintro e w10 ⟨Aw, cw, F, cf, rfl, hcw, hcw2, hcf, hcf2, how, hof, hb10⟩
        clear q0 q1 q2 z0 z1 z2 hg f0 f1 f2 f3 e0 e1 e2 e3 hg1 hcw hcw2 hcf hcf2
        dsimp only at how hof
        unfold sideVal
        obtain ⟨V6, hV6⟩ : ∃ V6, V6 = w10.alloc (.cells #[.slice Aw sb.sent.length cw, .int .i64 sb.taken, .int .i64 sb.known] 24) := ⟨_, rfl⟩
        obtain ⟨gw, hgw⟩ : ∃ gw, gw = w10.heap.size := ⟨_, rfl⟩
        have hb56 : Below V5.heap.size V5 V6 := by rw [hV6]; exact hb10.alloc hb10.size _
        have hl5 := HK6.out.l4
        have HK7 : Hid (KP w L gs gm A n c s f (some a0') cm V6) := HK6.out.below (hb56.mono hl5)
        have HBv6 : Hid (Bk V6 gb 24 #[.slice A5 (sb.sent.length + 2) c5, .int .i64 sb.taken, .int .i64 sb.known]) := HBv5.out.below hb56 HBv5.out.lt
        have HCv6 : Hid (Bk V6 gc 24 #[.slice Ac sb.sent.length cc, .int .i64 sb.taken, .int .i64 sb.known]) := HCv5.out.below hb56 HCv5.out.lt
        have HWv6 : Hid (Bk V6 gw 24 #[.slice Aw sb.sent.length cw, .int .i64 sb.taken, .int .i64 sb.known]) := by rw [hV6, hgw]; exact Bk.new _ _ _
        have HCr6 : Hid (Rd V6 V6.heap.size 1 Ac sb.sent.length (sb.sent.map Value.string)) := ((Rd.of_own HCo5.out).below hb56).mono hb56.size
        have HYr6 : Hid (Rd V6 V6.heap.size 4 Y lb.length (frs lb)) := ((Rd.of_own HYo5.out).below hb56).mono hb56.size
        have HWr6 : Hid (Rd V6 V6.heap.size 1 Aw sb.sent.length (sb.sent.map Value.string)) := by rw [hV6]; exact ((Rd.of_own how).alloc (Nat.le_refl _) _).mono (by simp)
        have HFr6 : Hid (Rd V6 V6.heap.size 4 F lb.length (frs lb)) := by rw [hV6]; exact ((Rd.of_own hof).alloc (Nat.le_refl _) _).mono (by simp)
        go_upto_region 27 with (fail)
        rw [← hV6, ← hgw]
        clear hV6 hgw how hof hb10 hb56
        obtain ⟨b0, b1, b2, y0, y1, y2, hgb⟩ := HBv6.out.three
        obtain ⟨q0, q1, q2, z0, z1, z2, hg⟩ := HK7.out.hm.three
        obtain ⟨p0, p1, p2, x0, x1, x2, hgp⟩ := HK7.out.hs.three
        have i2 : (2 : Int) ≤ (sb.sent.length : Int) + 2 := by omega
        have i3 : ¬ ((sb.sent.length : Int) + 2 < 2) := by omega
        go_wp2_with fail
        refine (HSm.out (some a0') A cm c V6 HK7.out.rm HK7.out.rs').mono ?_
        rintro e w11 ⟨rfl, hb11⟩
        clear b0 b1 b2 y0 y1 y2 hgb q0 q1 q2 z0 z1 z2 hg p0 p1 p2 x0 x1 x2 hgp
        have HCv7 : Hid (Bk w11 gc 24 #[.slice Ac sb.sent.length cc, .int .i64 sb.taken, .int .i64 sb.known]) := HCv6.out.below hb11 HCv6.out.lt
        have HWv7 : Hid (Bk w11 gw 24 #[.slice Aw sb.sent.length cw, .int .i64 sb.taken, .int .i64 sb.known]) := HWv6.out.below hb11 HWv6.out.lt
        have HCr7 : Hid (Rd w11 w11.heap.size 1 Ac sb.sent.length (sb.sent.map Value.string)) := (HCr6.out.below hb11).mono hb11.size
        have HWr7 : Hid (Rd w11 w11.heap.size 1 Aw sb.sent.length (sb.sent.map Value.string)) := (HWr6.out.below hb11).mono hb11.size
        have HYr7 : Hid (Rd w11 w11.heap.size 4 Y lb.length (frs lb)) := (HYr6.out.below hb11).mono hb11.size
        have HFr7 : Hid (Rd w11 w11.heap.size 4 F lb.length (frs lb)) := (HFr6.out.below hb11).mono hb11.size
        have HK8 : Hid (KP w L gs gm A n c s f (some a0') cm w11) := HK7.out.below (hb11.mono HK7.out.l4)
        clear hb11
        obtain ⟨q0, q1, q2, z0, z1, z2, hg⟩ := HCv7.out.three
        obtain ⟨p0, p1, p2, x0, x1, x2, hgp⟩ := HWv7.out.three
        go_wp2_with fail
        refine (HSb.out Ac Aw cc cw w11 HCr7.out HWr7.out).mono ?_
        rintro e w12 ⟨rfl, hb12⟩
        clear q0 q1 q2 z0 z1 z2 hg p0 p1 p2 x0 x1 x2 hgp
        have HYr8 : Hid (Rd w12 w12.heap.size 4 Y lb.length (frs lb)) := (HYr7.out.below hb12).mono hb12.size
        have HFr8 : Hid (Rd w12 w12.heap.size 4 F lb.length (frs lb)) := (HFr7.out.below hb12).mono hb12.size
        have HK9 : Hid (KP w L gs gm A n c s f (some a0') cm w12) := HK8.out.below (hb12.mono HK8.out.l4)
        clear hb12
        go_wp2_with fail
        refine (sameFrames_any Y F lb.length cy cf lb w12 rfl (by unfold maxLen; omega) HYr8.out HFr8.out).mono ?_
        rintro e w13 ⟨rfl, m, rfl⟩
        go_wp2_with fail
        go_ret
        rw [← HGS.out]
        have hbl := HK9.out.bl
        exact ⟨rfl, ⟨hbl.os, hbl.tape, hbl.output, hbl.size, hbl.block⟩⟩

end Go.Proofs.Ytkklghdmnkdofaa
