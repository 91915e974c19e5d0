/- Walk: the document's Reserve. By gen_e3.py. -/
import Derived.Test.YtboehkcpgmpjjaaE2
namespace Go.Proofs.Ytboehkcpgmpjjaa
open Go.RowKit

/-- Behind k elements of the document's loop. -/
def BuildAt (V0 : World) (l : List Lc) (p : Nat) (th : Bool) (x : Lc) (k : Nat) (vo vl : Value) (wr : World) : Prop :=
  ∃ A c, vo = .slice A (outL l p th x k).length c ∧ vl = .bool (laidL p x k) ∧ wr.ownsRow V0.heap.size 39 3 (.slice A (outL l p th x k).length c) (outL l p th x k).length (lcs (outL l p th x k)) ∧ Below V0.heap.size V0 wr

theorem own_app {w : World} {base c : Nat} {A : Option Addr} {out : List Lc} {y : Lc} (h : w.ownsRow base 39 3 (.slice A (out.length + 1) c) (out.length + 1) (lcs out ++ y.cells)) : w.ownsRow base 39 3 (.slice A (out ++ [y]).length c) (out ++ [y]).length (lcs (out ++ [y])) := by
  rw [← lcs_single, ← lcs_append] at h
  simpa using h

theorem own_ne_new {w : World} {base e size n c : Nat} {A : Option Addr} {xs : List Value} (h : w.ownsRow base e size (.slice A n c) n xs) : some w.heap.size ≠ (Value.slice A n c).ownBlock := by
  intro he
  have := (h.lt _ he.symm).2
  omega

set_option maxHeartbeats 16000000 in
set_option maxRecDepth 100000 in
theorem rreserve_any (A B : Option Addr) (n c m d : Nat) (av : List Int) (l : List Lc) (a i q : Int) (w : World) (hav : av.all fitsQ = true) (htl : upto (tidyAt l) l.length = true) (hn : n * 8 ≤ 140737488355328) (hm : m ≤ 1000000)
    (hra : Rd w w.heap.size 1 A n (ints av)) (hrl : Rd w w.heap.size 3 B m (lcs l)) :
    Calls Try.prog 16 #[.slice A n c, .slice B m d, .int .i64 a, .int .i64 i, .int .i64 q] w (ResOut w (reserveS av l a i q)) := by
  have hl : av.length = n := by have := hra.1; rw [ints_len] at this; omega
  have hlm : l.length = m := by have := hrl.1; rw [lcs_len] at this; omega
  have hso := sorted_of l htl
  obtain ⟨hh0, hh1⟩ := held_fits htl a i
  obtain ⟨h, hh⟩ : ∃ h, h = heldL l a i := ⟨_, rfl⟩
  rw [← hh] at hh0 hh1
  have hheld := rheld_any B m d l a i w (by unfold maxLen; omega) hrl
  rw [← hh] at hheld
  obtain ⟨r, hr⟩ : ∃ r, r = reserveS av l a i q := ⟨_, rfl⟩
  rw [← hr]
  have HELD := Lib.hid hheld
  have HH := Lib.hid hh
  have HR := Lib.hid hr
  have HAV := Lib.hid hav
  have HSO := Lib.hid hso
  have HRA := Lib.hid hra
  have HRL := Lib.hid hrl
  have HLA := Lib.hid hl
  have HLM := Lib.hid hlm
  clear hav htl hra hrl hl hlm hso hh hr hheld
  go_enter Try.func16, Try.ntmps16
  by_cases hi : i < 0 ∨ (n : Int) ≤ i
  · have e : r = ([], [], 32) := by rw [HR.out]; unfold reserveS; rw [HLA.out, if_pos hi]
    subst e
    by_cases h0 : i < 0
    · go_wp2
      go_ret3
      exact res_bad 32 (Below.refl _ _)
    · have h1 : (n : Int) ≤ i := by omega
      have h2 : ¬ (i < (n : Int)) := by omega
      go_wp2
      go_ret3
      exact res_bad 32 (Below.refl _ _)
  obtain ⟨k, rfl⟩ : ∃ k : Nat, i = k := ⟨i.toNat, by omega⟩
  have i1 : (0 : Int) ≤ (k : Int) := by omega
  have i2 : (k : Int) < (n : Int) := by omega
  have i3 : ¬ ((k : Int) < 0) := by omega
  have i4 : ¬ ((n : Int) ≤ (k : Int)) := by omega
  go_wp2_with fail
  refine HELD.out.mono ?_
  rintro e w1 ⟨rfl, hb1⟩
  have HB1 := Lib.hid hb1
  clear hb1
  have hk : k < av.length := by have := HLA.out; omega
  obtain ⟨a0, rfl, hab, c0⟩ := (HRA.out.below HB1.out).int hk
  obtain ⟨hv0, hv1⟩ := all_at HAV.out hk
  obtain ⟨v, hv⟩ : ∃ v, v = av[k] := ⟨_, rfl⟩
  rw [← hv] at c0 hv0 hv1
  have HV : Hid (av.getD k 0 = v) := by rw [hv]; exact getD_lt hk
  have HVK := Lib.hid hv
  clear hv hab
  have er : Hid (r = if q < -1000000000 ∨ 1000000000 < q ∨ h + q < 0 ∨ 1000000000 < h + q then ([], [], 36) else if v < q then ([], [], 39) else if 1000000000 < v - q then ([], [], 36)
      else if thereB l ⟨a, k, 0⟩ = false ∧ h + q ≠ 0 ∧ 32 ≤ l.length then ([], [], 40) else (av.set k (v - q), putL l (place l ⟨a, k, 0⟩) (thereB l ⟨a, k, 0⟩) ⟨a, k, h + q⟩, 0)) := Lib.hid (by
    rw [HR.out]; unfold reserveS; rw [HLA.out, if_neg hi, Int.toNat_natCast, HV.out, ← HH.out])
  go_wp2_with fail
  refine (bound_any q w1).mono ?_
  rintro e w1' ⟨rfl, hw1⟩
  subst hw1
  by_cases hq : boundQ q = true
  case neg =>
    have hq' : boundQ q = false := by simpa using hq
    have e : r = ([], [], 36) := by rw [er.out, if_pos (by simp [boundQ] at hq; omega)]
    subst e
    rw [hq']
    go_wp2
    go_ret3
    exact res_bad 36 HB1.out
  have hq1 : -1000000000 ≤ q ∧ q ≤ 1000000000 := by simpa [boundQ] using hq
  have iw : IntKind.i64.wrap (h + q) = h + q := IntWalk.i64_in _ (by omega)
  rw [hq]
  clear hq
  go_wp2_with fail
  refine (fits_any (h + q) _).mono ?_
  rintro e w1' ⟨rfl, hw1⟩
  subst hw1
  by_cases hs : fitsQ (h + q) = true
  case neg =>
    have hs' : fitsQ (h + q) = false := by simpa using hs
    have e : r = ([], [], 36) := by rw [er.out, if_pos (by simp [fitsQ] at hs; omega)]
    subst e
    rw [hs']
    go_wp2
    go_ret3
    exact res_bad 36 HB1.out
  have hs1 : 0 ≤ h + q ∧ h + q ≤ 1000000000 := by simpa [fitsQ] using hs
  rw [hs]
  clear hs
  have er2 : Hid (r = if v < q then ([], [], 39) else if 1000000000 < v - q then ([], [], 36)
      else if thereB l ⟨a, k, 0⟩ = false ∧ h + q ≠ 0 ∧ 32 ≤ l.length then ([], [], 40) else (av.set k (v - q), putL l (place l ⟨a, k, 0⟩) (thereB l ⟨a, k, 0⟩) ⟨a, k, h + q⟩, 0)) := Lib.hid (by
    rw [er.out, if_neg (by omega)])
  clear er
  by_cases hvq : v < q
  · have e : r = ([], [], 39) := by rw [er2.out, if_pos hvq]
    subst e
    go_wp2
    go_ret3
    exact res_bad 39 HB1.out
  have iw2 : IntKind.i64.wrap (v - q) = v - q := IntWalk.i64_in _ (by omega)
  by_cases hvm : 1000000000 < v - q
  · have e : r = ([], [], 36) := by rw [er2.out, if_neg hvq, if_pos hvm]
    subst e
    go_wp2
    go_ret3
    exact res_bad 36 HB1.out
  have er3 : Hid (r = if thereB l ⟨a, k, 0⟩ = false ∧ h + q ≠ 0 ∧ 32 ≤ l.length then ([], [], 40) else (av.set k (v - q), putL l (place l ⟨a, k, 0⟩) (thereB l ⟨a, k, 0⟩) ⟨a, k, h + q⟩, 0)) := Lib.hid (by
    rw [er2.out, if_neg hvq, if_neg hvm])
  clear er2
  rename World => w1
  have hownE : (w1.alloc (.cells #[] 3)).ownsRow w1.heap.size 3 1 (.slice (some ⟨w1.heap.size, 0, none⟩) 0 0) 0 [] := ⟨by simp, .inr ⟨w1.heap.size, 0, #[], rfl, Nat.le_refl _, Bk.new _ _ _, Nat.le_refl _, Nat.zero_le _, by simp, by simp⟩⟩
  have hr1 : Rd (w1.alloc (.cells #[] 3)) w.heap.size 1 (some a0) n (ints av) := (HRA.out.below HB1.out).alloc HB1.out.size _
  have ones := ints_one av
  obtain ⟨y0, hinf3, y1, y2, y3⟩ := info_parts info3
  go_upto_region 11 with (at_builtin; go_must (refine wpList_append_rd _ rfl (.tmp 57) (.tmp 58) _ rfl w1.heap.size 3 y0 _ 1 8 Try.underlying22 hinf3 y1 y2 y3 rfl (by omega) _ 0 [] rfl hownE w.heap.size (some a0) n c _ rfl hr1 ones (by simp only [maxLen]; omega) (by omega) (by simp) ?_); intro A1 c1 w2 h1 h2 hown1 hg1 hat1)
  simp only [Nat.zero_add, List.nil_append] at h1 hown1 ⊢
  have hak : av.length = n := HLA.out
  obtain ⟨a1, rfl, hab, d0⟩ := (Rd.of_own hown1).int hk
  rw [← HVK.out] at d0
  have z0 : w2.frozen? (a1.add k) = false := by
    rcases hown1.2 with ⟨hx, _⟩ | ⟨g, cap, cur, hx, _, hh, _⟩
    · cases hx
    · injection hx with hx
      injection hx with hx
      subst hx
      have hB : Bk w2 g 3 cur := hh
      unfold Addr.add
      split
      · exact hB.frozen 0
      · exact hB.frozen _
  have HB2 : Hid (Below w1.heap.size w1 w2) := ((Below.refl w1.heap.size w1).alloc (Nat.le_refl _) _).grown hg1 (by simp) (fun k hk' => Nat.le_of_eq (Option.some.inj hk'))
  obtain ⟨V0, hV0⟩ : ∃ V0, V0 = w2.setCell (a1.add k) (.int .i64 (v - q)) := ⟨_, rfl⟩
  obtain ⟨ys, hys⟩ : ∃ ys, ys = av.set k (v - q) := ⟨_, rfl⟩
  have hyl : ys.length = n := by rw [hys, List.length_set, hak]
  have HOA : Hid (V0.ownsRow w.heap.size 3 1 (.slice (some a1) ys.length c1) ys.length (ints ys)) := by
    have hp := own_put hown1 k (.int .i64 (v - q))
    rw [ints_set, ← hys] at hp
    rw [hV0, hyl]
    exact own_mono hp HB1.out.size
  have HBV : Hid (Below w.heap.size w V0) := by
    rw [hV0]
    exact Below.setCell (HB1.out.trans (HB2.out.mono HB1.out.size)) (by rw [add_block]; exact Nat.le_trans HB1.out.size (hown1.lt _ rfl).1) _
  have HC1 : Hid (ys.length ≤ c1) := by rw [hyl]; exact h1
  have HM1 := Lib.hid h2
  have HYS := Lib.hid hys
  have HYL := Lib.hid hyl
  clear hak hr1 hownE ones hown1 hg1 hat1 c0 h1 h2 hys hyl
  go_upto_region 12 with (fail)
  rw [← hV0]
  clear hV0 z0 d0 HB2 y1 y2 y3 hinf3
  obtain ⟨p, hp⟩ : ∃ p, p = place l ⟨a, k, 0⟩ := ⟨_, rfl⟩
  obtain ⟨th, hth⟩ : ∃ th, th = thereB l ⟨a, k, 0⟩ := ⟨_, rfl⟩
  rw [← hp, ← hth] at er3
  have hkey : ∀ j, j < m → (keyB a k (l.getD j default) = true ↔ (j = p ∧ th = true)) := fun j hj => by
    have := HSO.out.key a k 0 (j := j) (by have := HLM.out; omega)
    rwa [← hp, ← hth] at this
  have hgr : ∀ j, j < m → keyB a k (l.getD j default) = false → (¬ j < p ↔ ((l.getD j default).acct > a ∨ ((l.getD j default).acct = a ∧ (l.getD j default).instr > k))) := fun j hj hn => by
    have := HSO.out.great a k 0 (k := j) (by have := HLM.out; omega) hn
    rwa [← hp] at this
  have hpm : p ≤ m := by have := (HSO.out.place ⟨a, k, 0⟩).1; rw [← hp] at this; have := HLM.out; omega
  have hthp : th = true → p < m := fun ht => by
    have e := ht
    rw [hth] at e
    unfold thereB at e
    rw [← hp] at e
    simp only [Bool.and_eq_true, decide_eq_true_eq] at e
    have := HLM.out
    omega
  have HKEY := Lib.hid hkey
  have HGR := Lib.hid hgr
  have HTHP := Lib.hid hthp
  clear hp hth hkey hgr hthp
  have HRL0 : Hid (Rd V0 w.heap.size 3 B m (lcs l)) := HRL.out.below HBV.out
  have hwV : w.heap.size ≤ V0.heap.size := HBV.out.size
  go_upto_region 14 with (fail)
  obtain ⟨zz, hzz⟩ : ∃ zz, zz = (h + q == 0) := ⟨_, rfl⟩
  rw [← hzz]
  have HZZ := Lib.hid hzz
  clear hzz
  go_wp2
  go_loopw [75, 17] (fun vi vt wr => ∃ j : Nat, j ≤ m ∧ vi = .int .i64 j ∧ vt = .bool (decide (p < j) && th) ∧ Below V0.heap.size V0 wr) (fun vi _ _ => m - (intOf vi).toNat)
  case atStart => exact ⟨0, Nat.zero_le _, rfl, by simp, Below.refl _ _⟩
  case round =>
    obtain ⟨j, hj, rfl, rfl, hbv⟩ := hrel
    rename World => V2
    have HBJ := Lib.hid hbv
    clear hbv
    by_cases hlt : j < m
    · have hjl : j < l.length := by have := HLM.out; omega
      obtain ⟨b0, hA, _, c0, c1, c2⟩ := (HRL0.out.below (HBJ.out.mono hwV)).loc hjl
      obtain ⟨⟨xa, xi, xq⟩, hx⟩ : ∃ x, x = l[j] := ⟨_, rfl⟩
      rw [← hx] at c0 c1 c2
      have HX : Hid (l.getD j default = ⟨xa, xi, xq⟩) := by rw [hx]; exact getD_lt hjl
      dsimp only at c0 c1 c2
      subst hA
      clear hx
      have j1 : (j : Int) < (m : Int) := by omega
      have j2 : (0 : Int) ≤ (j : Int) := by omega
      have j4 : IntKind.i64.wrap ((j : Int) + 1) = (j : Int) + 1 := IntWalk.i64_in _ (by omega)
      have hkj := HKEY.out j hlt
      rw [HX.out] at hkj
      by_cases hxk : xa = a ∧ xi = k
      · obtain ⟨hj1, hj2⟩ := hkj.1 (by simp [keyB, hxk.1, hxk.2])
        obtain ⟨rfl, rfl⟩ := hxk
        clear hkj
        have HJ1 := Lib.hid hj1
        have HJ2 := Lib.hid hj2
        clear hj1 hj2
        go_wp2
        refine ⟨⟨j + 1, by omega, by push_cast; rfl, ?_, HBJ.out.alloc HBJ.out.size _⟩, by simp only [intOf]; omega⟩
        rw [HJ2.out, decide_eq_true (by have := HJ1.out; omega)]
        rfl
      · have hne : (decide (p < j + 1) && th) = (decide (p < j) && th) := by
          by_cases hpj : j = p
          · by_cases ht : th = true
            · have := hkj.2 ⟨hpj, ht⟩
              simp [keyB] at this
              exact absurd this hxk
            · have ht' : th = false := by simpa using ht
              rw [ht', Bool.and_false, Bool.and_false]
          · congr 1
            exact decide_eq_decide.2 (by omega)
        have HNE := Lib.hid hne
        clear hkj hne
        by_cases h1 : xa = a
        · have h2 : ¬ (xi = (k : Int)) := fun h => hxk ⟨h1, h⟩
          subst h1
          go_wp2
          exact ⟨⟨j + 1, by omega, by push_cast; rfl, by rw [HNE.out], HBJ.out.alloc HBJ.out.size _⟩, by simp only [intOf]; omega⟩
        · go_wp2
          exact ⟨⟨j + 1, by omega, by push_cast; rfl, by rw [HNE.out], HBJ.out.alloc HBJ.out.size _⟩, by simp only [intOf]; omega⟩
    · have j5 : ¬ ((j : Int) < (m : Int)) := by omega
      have hjm : j = m := by omega
      have hjt : (decide (p < j) && th) = th := by
        cases hth : th with
        | false => rw [Bool.and_false]
        | true => rw [decide_eq_true (by have := HTHP.out hth; omega)]; rfl
      rw [hjt]
      clear hjt
      by_cases h40 : th = false ∧ h + q ≠ 0 ∧ 32 ≤ m
      · obtain ⟨rfl, hz, h32⟩ := h40
        have e : r = ([], [], 40) := by rw [er3.out, if_pos ⟨rfl, hz, by rw [HLM.out]; exact h32⟩]
        subst e
        have j6 : (32 : Int) ≤ (m : Int) := by omega
        have hzf : zz = false := by rw [HZZ.out]; simp [hz]
        go_wp2
        go_ret3
        exact res_bad 40 (HBV.out.trans (HBJ.out.mono hwV))
      have e : r = (ys, putL l p th ⟨a, k, h + q⟩, 0) := by rw [er3.out, if_neg (by rw [HLM.out]; exact h40), HYS.out]
      have HE := Lib.hid e
      clear e
      have HO0 : Hid (BuildAt V0 l p th ⟨a, k, h + q⟩ 0 (.slice none 0 0) (.bool zz) V2) := by
        refine ⟨none, 0, by rw [outL_zero]; rfl, ?_, by rw [outL_zero]; exact World.ownsRow_nil _ _ _ _, HBJ.out⟩
        unfold laidL
        rw [if_pos (Nat.zero_le _), HZZ.out]
        rfl
      obtain ⟨i0, hinf, hz0, hz1, hz2⟩ := info_parts info39
      have hcase : th = true ∨ (th = false ∧ zz = true) ∨ (th = false ∧ zz = false ∧ ¬ 32 ≤ m) := by
        cases hth : th with
        | true => exact .inl rfl
        | false =>
          by_cases hz : h + q = 0
          · exact .inr (.inl ⟨rfl, by rw [HZZ.out]; simp [hz]⟩)
          · exact .inr (.inr ⟨rfl, by rw [HZZ.out]; simp [hz], fun h32 => h40 ⟨hth, hz, h32⟩⟩)
      clear h40
      have hzq : zz = decide ((⟨a, k, h + q⟩ : Lc).qty = 0) := HZZ.out
      have HZQ := Lib.hid hzq
      clear hzq
      obtain ⟨x, hx⟩ : ∃ x : Lc, x = ⟨a, k, h + q⟩ := ⟨_, rfl⟩
      have hxc : x.cells = [.int .i64 a, .int .i64 (k : Int), .int .i64 (h + q)] := by rw [hx]; rfl
      rw [← hx] at HO0 HE HZQ
      have HXC := Lib.hid hxc
      have HX0 := Lib.hid hx
      clear hx hxc
      rcases hcase with ht | ⟨ht, hzt⟩ | ⟨ht, hzf, h32⟩
      case' inr.inr => have i32 : ¬ ((32 : Int) ≤ (m : Int)) := by omega
      all_goals
        go_wp2
        go_loopw [103, 15, 16] (fun vi vo vl wr => ∃ j : Nat, j ≤ m ∧ vi = .int .i64 j ∧ BuildAt V0 l p th x j vo vl wr) (fun vi _ _ _ => m - (intOf vi).toNat)
        case atStart => exact ⟨0, Nat.zero_le _, rfl, (by have h0 := HO0.out; first | exact h0 | (rw [hzt] at h0; exact h0) | (rw [hzf] at h0; exact h0))⟩
        case round =>
          obtain ⟨j', hj', rfl, A0, c0', rfl, rfl, hown, hbv⟩ := hrel
          rename World => V4
          have hol : (outL l p th x j').length ≤ 1000001 := by have := @outL_len l p j' th x (by have := HLM.out; omega); omega
          obtain ⟨out, hout⟩ : ∃ out, out = outL l p th x j' := ⟨_, rfl⟩
          obtain ⟨lv, hlv⟩ : ∃ lv, lv = laidL p x j' := ⟨_, rfl⟩
          rw [← hout] at hown hol
          rw [← hout, ← hlv]
          have HOUT := Lib.hid hout
          have HLV := Lib.hid hlv
          have HO4 := Lib.hid hown
          have HB4 := Lib.hid hbv
          clear hown hbv hout hlv
          have hV4 : V0.heap.size ≤ V4.heap.size := HB4.out.size
          by_cases hlt : j' < m
          · have hjl : j' < l.length := by have := HLM.out; omega
            obtain ⟨b0, hA, _, c0, c1x, c2⟩ := (HRL0.out.below (HB4.out.mono hwV)).loc hjl
            obtain ⟨y, hy⟩ : ∃ y, y = l[j'] := ⟨_, rfl⟩
            rw [← hy] at c0 c1x c2
            have HY : Hid (l.getD j' default = y) := by rw [hy]; exact getD_lt hjl
            clear hy
            obtain ⟨xa, xi, xq⟩ := y
            dsimp only at c0 c1x c2
            subst hA
            have j1 : (j' : Int) < (m : Int) := by omega
            have j2 : (0 : Int) ≤ (j' : Int) := by omega
            have j4 : IntKind.i64.wrap ((j' : Int) + 1) = (j' : Int) + 1 := IntWalk.i64_in _ (by omega)
            have hkj := HKEY.out j' hlt
            have hgj := HGR.out j' hlt
            rw [HY.out] at hkj hgj
            obtain ⟨V3, hV3⟩ : ∃ V3, V3 = V4.alloc (.cells #[.int .i64 xa, .int .i64 xi, .int .i64 xq] 39) := ⟨_, rfl⟩
            obtain ⟨bY, hbY⟩ : ∃ bY, bY = V4.heap.size := ⟨_, rfl⟩
            have HBY : Hid (Bk V3 bY 39 #[.int .i64 xa, .int .i64 xi, .int .i64 xq]) := by rw [hV3, hbY]; exact Bk.new _ _ _
            have HO3 : Hid (V3.ownsRow V0.heap.size 39 3 (.slice A0 out.length c0') out.length (lcs out)) := by rw [hV3]; exact HO4.out.alloc _
            have HB3 : Hid (Below V0.heap.size V0 V3) := by rw [hV3]; exact HB4.out.alloc hV4 _
            have hV3s : V0.heap.size ≤ V3.heap.size := HB3.out.size
            have hne : some bY ≠ (Value.slice A0 out.length c0').ownBlock := by rw [hbY]; exact own_ne_new HO4.out
            have HNEB := Lib.hid hne
            have hry : Rd (V3.alloc (.cells #[.int .i64 xa, .int .i64 xi, .int .i64 xq] 39)) (V3.heap.size + 1) 3 (some ⟨V3.heap.size, 0, none⟩) 1 (Lc.cells ⟨xa, xi, xq⟩) := rd_one (x := ⟨xa, xi, xq⟩) (Bk.new _ _ _)
            have hrx : Rd (V3.alloc (.cells #[.int .i64 a, .int .i64 (k : Int), .int .i64 (h + q)] 39)) (V3.heap.size + 1) 3 (some ⟨V3.heap.size, 0, none⟩) 1 (Lc.cells ⟨a, k, h + q⟩) := rd_one (x := ⟨a, k, h + q⟩) (Bk.new _ _ _)
            have hlen1 : (outL l p th x (j' + 1)).length ≤ 1000001 := by have := @outL_len l p (j' + 1) th x (by have := HLM.out; omega); omega
            go_upto_region 26 with (fail)
            rw [← hV3, ← hbY]
            clear hV3 hbY c0 c1x c2 hne
            obtain ⟨x0, x1, x2, z0, z1, z2, hxg⟩ := HBY.out.three
            -- the end of a round in which y alone was laid
            have finY : ∀ (A1 : Option Addr) (c1' : Nat) (w3 : World), outL l p th x (j' + 1) = out ++ [⟨xa, xi, xq⟩] → laidL p x (j' + 1) = lv → w3.ownsRow V0.heap.size 39 3 (.slice A1 (out.length + 1) c1') (out.length + 1) (lcs out ++ Lc.cells ⟨xa, xi, xq⟩) → Below V0.heap.size V0 w3 → BuildAt V0 l p th x (j' + 1) (.slice A1 (out.length + 1) c1') (.bool lv) w3 := fun A1 c1' w3 e1 e2 ho hb => by
              have ho' := own_app ho
              refine ⟨A1, c1', by rw [e1]; simp, by rw [e2], by rw [e1]; exact ho', hb⟩
            have FINY := Lib.hid finY
            clear finY
            have hless : j' < p → outL l p th x (j' + 1) = out ++ [⟨xa, xi, xq⟩] ∧ laidL p x (j' + 1) = lv := fun hp => by
              rw [outL_low hjl hp, HY.out, HOUT.out, laidL_low hp, HLV.out]
              exact ⟨rfl, rfl⟩
            have hhigh : p < j' → outL l p th x (j' + 1) = out ++ [⟨xa, xi, xq⟩] ∧ laidL p x (j' + 1) = lv ∧ lv = true := fun hp => by
              rw [outL_high hjl hp, HY.out, HOUT.out, HLV.out, laidL_high hp, laidL_high (show p < j' + 1 by omega)]
              exact ⟨rfl, rfl, rfl⟩
            have hmid : j' = p → lv = zz := fun hp => by rw [HLV.out, hp, laidL_at, ← HZQ.out]
            have HLESS := Lib.hid hless
            have HHIGH := Lib.hid hhigh
            have HMID := Lib.hid hmid
            clear hless hhigh hmid
            have hmt : zz = true → midL x = [] := fun h => by rw [HZQ.out, decide_eq_true_eq] at h; unfold midL; rw [if_pos h]
            have hmf : zz = false → midL x = [x] := fun h => by rw [HZQ.out, decide_eq_false_iff_not] at h; unfold midL; rw [if_neg h]
            have HMT := Lib.hid hmt
            have HMF := Lib.hid hmf
            clear hmt hmf
            have hpl : p ≤ l.length := by have := HLM.out; omega
            by_cases ha : xa = a
            · by_cases hi2 : xi = (k : Int)
              · obtain ⟨hjp, hth⟩ := hkj.1 (by simp [keyB, ha, hi2])
                have HLZ := Lib.hid (HMID.out hjp)
                have e1 : outL l p th x (j' + 1) = out ++ midL x := by rw [HOUT.out, hjp]; exact outL_at hth (by rw [← hjp]; exact hjl)
                have e2 : laidL p x (j' + 1) = true := laidL_high (by omega)
                have HE1 := Lib.hid e1
                have HE2 := Lib.hid e2
                clear e1 e2 hkj hgj hjp
                subst ha hi2
                cases lv with
                | true =>
                  go_wp2
                  refine ⟨⟨j' + 1, by omega, by push_cast; rfl, A0, c0', ?_, by rw [HE2.out], ?_, HB3.out⟩, by simp only [intOf]; omega⟩
                  · rw [HE1.out, HMT.out HLZ.out.symm, List.append_nil]
                  · rw [HE1.out, HMT.out HLZ.out.symm, List.append_nil]; exact HO3.out
                | false =>
                  go_upto_region 29 with (at_builtin; go_must (refine wpList_append_rd _ rfl (.tmp 119) (.tmp 126) _ rfl V0.heap.size 39 i0 _ 3 24 Try.underlying23 hinf hz0 hz1 hz2 rfl (by omega) _ out.length (lcs out) rfl (HO3.out.alloc _) _ _ 1 1 _ rfl hrx (cells_one _) (by unfold maxLen; omega) (by omega) (by simp; omega) ?_); intro A1 c1' w3 h1 h2 hown1 hg1 hat1)
                  go_wp2
                  have ho' : w3.ownsRow V0.heap.size 39 3 (.slice A1 (out.length + 1) c1') (out.length + 1) (lcs out ++ x.cells) := by rw [HX0.out]; exact hown1
                  refine ⟨⟨j' + 1, by omega, by push_cast; rfl, A1, c1', ?_, by rw [HE2.out], by rw [HE1.out, HMF.out HLZ.out.symm]; exact own_app ho', ((HB3.out.alloc hV3s _).grown hg1 (by simp; omega) (fun b hb => (HO3.out.lt b hb).1))⟩, by simp only [intOf]; omega⟩
                  rw [HE1.out, HMF.out HLZ.out.symm]
                  simp
              · have hnk : keyB a k ⟨xa, xi, xq⟩ = false := by simp [keyB, hi2]
                have hg := hgj hnk
                dsimp only at hg
                have hnth : j' = p → th = false := fun hjp3 => by
                  cases hth : th with
                  | false => rfl
                  | true => rw [hkj.2 ⟨hjp3, hth⟩] at hnk; cases hnk
                by_cases hlo : xi < (k : Int)
                · have hjp : j' < p := by omega
                  have g1 : ¬ ((k : Int) < xi) := by omega
                  subst ha
                  clear hg hnk hnth
                  clear hkj hgj
                  cases lv with
                  | true =>
                    go_upto_region 34 with (at_builtin; go_must (refine wpList_append_rd _ rfl (.tmp 161) (.tmp 163) _ rfl V0.heap.size 39 i0 _ 3 24 Try.underlying23 hinf hz0 hz1 hz2 rfl (by omega) _ out.length (lcs out) rfl (HO3.out.alloc _) _ _ 1 1 _ rfl hry (cells_one _) (by unfold maxLen; omega) (by omega) (by simp; omega) ?_); intro A1 c1' w3 h1 h2 hown1 hg1 hat1)
                    go_wp2
                    exact ⟨⟨j' + 1, by omega, by push_cast; rfl, FINY.out _ _ _ ((HLESS.out hjp).1) ((HLESS.out hjp).2) hown1 ((HB3.out.alloc hV3s _).grown hg1 (by simp; omega) (fun b hb => (HO3.out.lt b hb).1))⟩, by simp only [intOf]; omega⟩
                  | false =>
                    go_upto_region 34 with (at_builtin; go_must (refine wpList_append_rd _ rfl (.tmp 161) (.tmp 163) _ rfl V0.heap.size 39 i0 _ 3 24 Try.underlying23 hinf hz0 hz1 hz2 rfl (by omega) _ out.length (lcs out) rfl (HO3.out.alloc _) _ _ 1 1 _ rfl hry (cells_one _) (by unfold maxLen; omega) (by omega) (by simp; omega) ?_); intro A1 c1' w3 h1 h2 hown1 hg1 hat1)
                    go_wp2
                    exact ⟨⟨j' + 1, by omega, by push_cast; rfl, FINY.out _ _ _ ((HLESS.out hjp).1) ((HLESS.out hjp).2) hown1 ((HB3.out.alloc hV3s _).grown hg1 (by simp; omega) (fun b hb => (HO3.out.lt b hb).1))⟩, by simp only [intOf]; omega⟩
                · have hjp : ¬ j' < p := by omega
                  have g1 : (k : Int) < xi := by omega
                  subst ha
                  clear hg hnk
                  clear hkj hgj
                  cases lv with
                  | true =>
                    have e12 : outL l p th x (j' + 1) = out ++ [⟨xa, xi, xq⟩] ∧ laidL p x (j' + 1) = true := by
                      by_cases hjp2 : p < j'
                      · exact ⟨(HHIGH.out hjp2).1, (HHIGH.out hjp2).2.1⟩
                      · have hjp3 : j' = p := by omega
                        have hth : th = false := hnth hjp3
                        rw [HOUT.out, hjp3, outL_not hth (by rw [← hjp3]; exact hjl), HMT.out (by rw [← HMID.out hjp3]), List.append_nil]
                        refine ⟨?_, laidL_high (by omega)⟩
                        have := HY.out
                        rw [hjp3] at this
                        rw [this]
                    have HE12 := Lib.hid e12
                    clear e12
                    go_upto_region 34 with (at_builtin; go_must (refine wpList_append_rd _ rfl (.tmp 161) (.tmp 163) _ rfl V0.heap.size 39 i0 _ 3 24 Try.underlying23 hinf hz0 hz1 hz2 rfl (by omega) _ out.length (lcs out) rfl (HO3.out.alloc _) _ _ 1 1 _ rfl hry (cells_one _) (by unfold maxLen; omega) (by omega) (by simp; omega) ?_); intro A1 c1' w3 h1 h2 hown1 hg1 hat1)
                    go_wp2
                    exact ⟨⟨j' + 1, by omega, by push_cast; rfl, FINY.out _ _ _ (HE12.out.1) (HE12.out.2) hown1 ((HB3.out.alloc hV3s _).grown hg1 (by simp; omega) (fun b hb => (HO3.out.lt b hb).1))⟩, by simp only [intOf]; omega⟩
                  | false =>
                    have hjp3 : j' = p := by
                      by_cases hjp2 : p < j'
                      · have := (HHIGH.out hjp2).2.2; cases this
                      · omega
                    have hth : th = false := hnth hjp3
                    have e1 : outL l p th x (j' + 1) = out ++ [x] ++ [⟨xa, xi, xq⟩] := by
                      rw [HOUT.out, hjp3, outL_not hth (by rw [← hjp3]; exact hjl), HMF.out (by rw [← HMID.out hjp3])]
                      have := HY.out
                      rw [hjp3] at this
                      rw [this]
                    have e2 : laidL p x (j' + 1) = true := laidL_high (by omega)
                    have HE1 := Lib.hid e1
                    have HE2 := Lib.hid e2
                    clear e1 e2 hjp3 hnth
                    have hcontra : ¬ th = true := by rw [hth]; simp
                    try exact absurd ht hcontra
                    all_goals
                      go_upto_region 33 with (at_builtin; go_must (refine wpList_append_rd _ rfl (.tmp 152) (.tmp 159) _ rfl V0.heap.size 39 i0 _ 3 24 Try.underlying23 hinf hz0 hz1 hz2 rfl (by omega) _ out.length (lcs out) rfl (HO3.out.alloc _) _ _ 1 1 _ rfl hrx (cells_one _) (by unfold maxLen; omega) (by omega) (by simp; omega) ?_); intro A5 c5 w5 h1 h2 hown1 hg1 hat1; have HBY1 : Hid (Bk w5 bY 39 #[.int .i64 xa, .int .i64 xi, .int .i64 xq]) := (HBY.out.alloc _).grown hg1 HNEB.out; have HO5 : Hid (w5.ownsRow V0.heap.size 39 3 (.slice A5 (out.length + 1) c5) (out.length + 1) (lcs (out ++ [x]))) := (by rw [lcs_append, lcs_single, HX0.out]; exact hown1); have HB5 : Hid (Below V0.heap.size V0 w5) := ((HB3.out.alloc hV3s _).grown hg1 (by simp; omega) (fun b hb => (HO3.out.lt b hb).1)); clear x0 x1 x2 z0 z1 z2 hxg hown1 hg1 hat1; obtain ⟨x0, x1, x2, z0, z1, z2, hxg⟩ := HBY1.out.three)
                      have hV5 : V0.heap.size ≤ w5.heap.size := HB5.out.size
                      have hry2 : Rd (w5.alloc (.cells #[.int .i64 xa, .int .i64 xi, .int .i64 xq] 39)) (w5.heap.size + 1) 3 (some ⟨w5.heap.size, 0, none⟩) 1 (Lc.cells ⟨xa, xi, xq⟩) := rd_one (x := ⟨xa, xi, xq⟩) (Bk.new _ _ _)
                      go_upto_region 34 with (at_builtin; go_must (refine wpList_append_rd _ rfl (.tmp 161) (.tmp 163) _ rfl V0.heap.size 39 i0 _ 3 24 Try.underlying23 hinf hz0 hz1 hz2 rfl (by omega) _ (out.length + 1) (lcs (out ++ [x])) rfl (HO5.out.alloc _) _ _ 1 1 _ rfl hry2 (cells_one _) (by unfold maxLen; omega) (by omega) (by simp; omega) ?_); intro A1 c1' w3 h1 h2 hown1 hg1 hat1)
                      go_wp2
                      have ho' : w3.ownsRow V0.heap.size 39 3 (.slice A1 ((out ++ [x]).length + 1) c1') ((out ++ [x]).length + 1) (lcs (out ++ [x]) ++ Lc.cells ⟨xa, xi, xq⟩) := by rw [List.length_append]; exact hown1
                      refine ⟨⟨j' + 1, by omega, by push_cast; rfl, A1, c1', ?_, by rw [HE2.out], by rw [HE1.out]; exact own_app ho', (HB5.out.alloc hV5 _).grown hg1 (by simp; omega) (fun b hb => (HO5.out.lt b hb).1)⟩, by simp only [intOf]; omega⟩
                      rw [HE1.out]
                      simp
            · have hnk : keyB a k ⟨xa, xi, xq⟩ = false := by simp [keyB, ha]
              have hg := hgj hnk
              dsimp only at hg
              have hnth : j' = p → th = false := fun hjp3 => by
                cases hth : th with
                | false => rfl
                | true => rw [hkj.2 ⟨hjp3, hth⟩] at hnk; cases hnk
              by_cases hlo : xa < a
              · have hjp : j' < p := by omega
                have g1 : ¬ (a < xa) := by omega
                clear hg hnk hnth
                clear hkj hgj
                cases lv with
                | true =>
                  go_upto_region 34 with (at_builtin; go_must (refine wpList_append_rd _ rfl (.tmp 161) (.tmp 163) _ rfl V0.heap.size 39 i0 _ 3 24 Try.underlying23 hinf hz0 hz1 hz2 rfl (by omega) _ out.length (lcs out) rfl (HO3.out.alloc _) _ _ 1 1 _ rfl hry (cells_one _) (by unfold maxLen; omega) (by omega) (by simp; omega) ?_); intro A1 c1' w3 h1 h2 hown1 hg1 hat1)
                  go_wp2
                  exact ⟨⟨j' + 1, by omega, by push_cast; rfl, FINY.out _ _ _ ((HLESS.out hjp).1) ((HLESS.out hjp).2) hown1 ((HB3.out.alloc hV3s _).grown hg1 (by simp; omega) (fun b hb => (HO3.out.lt b hb).1))⟩, by simp only [intOf]; omega⟩
                | false =>
                  go_upto_region 34 with (at_builtin; go_must (refine wpList_append_rd _ rfl (.tmp 161) (.tmp 163) _ rfl V0.heap.size 39 i0 _ 3 24 Try.underlying23 hinf hz0 hz1 hz2 rfl (by omega) _ out.length (lcs out) rfl (HO3.out.alloc _) _ _ 1 1 _ rfl hry (cells_one _) (by unfold maxLen; omega) (by omega) (by simp; omega) ?_); intro A1 c1' w3 h1 h2 hown1 hg1 hat1)
                  go_wp2
                  exact ⟨⟨j' + 1, by omega, by push_cast; rfl, FINY.out _ _ _ ((HLESS.out hjp).1) ((HLESS.out hjp).2) hown1 ((HB3.out.alloc hV3s _).grown hg1 (by simp; omega) (fun b hb => (HO3.out.lt b hb).1))⟩, by simp only [intOf]; omega⟩
              · have hjp : ¬ j' < p := by omega
                have g1 : a < xa := by omega
                clear hg hnk
                clear hkj hgj
                cases lv with
                | true =>
                  have e12 : outL l p th x (j' + 1) = out ++ [⟨xa, xi, xq⟩] ∧ laidL p x (j' + 1) = true := by
                    by_cases hjp2 : p < j'
                    · exact ⟨(HHIGH.out hjp2).1, (HHIGH.out hjp2).2.1⟩
                    · have hjp3 : j' = p := by omega
                      have hth : th = false := hnth hjp3
                      rw [HOUT.out, hjp3, outL_not hth (by rw [← hjp3]; exact hjl), HMT.out (by rw [← HMID.out hjp3]), List.append_nil]
                      refine ⟨?_, laidL_high (by omega)⟩
                      have := HY.out
                      rw [hjp3] at this
                      rw [this]
                  have HE12 := Lib.hid e12
                  clear e12
                  go_upto_region 34 with (at_builtin; go_must (refine wpList_append_rd _ rfl (.tmp 161) (.tmp 163) _ rfl V0.heap.size 39 i0 _ 3 24 Try.underlying23 hinf hz0 hz1 hz2 rfl (by omega) _ out.length (lcs out) rfl (HO3.out.alloc _) _ _ 1 1 _ rfl hry (cells_one _) (by unfold maxLen; omega) (by omega) (by simp; omega) ?_); intro A1 c1' w3 h1 h2 hown1 hg1 hat1)
                  go_wp2
                  exact ⟨⟨j' + 1, by omega, by push_cast; rfl, FINY.out _ _ _ (HE12.out.1) (HE12.out.2) hown1 ((HB3.out.alloc hV3s _).grown hg1 (by simp; omega) (fun b hb => (HO3.out.lt b hb).1))⟩, by simp only [intOf]; omega⟩
                | false =>
                  have hjp3 : j' = p := by
                    by_cases hjp2 : p < j'
                    · have := (HHIGH.out hjp2).2.2; cases this
                    · omega
                  have hth : th = false := hnth hjp3
                  have e1 : outL l p th x (j' + 1) = out ++ [x] ++ [⟨xa, xi, xq⟩] := by
                    rw [HOUT.out, hjp3, outL_not hth (by rw [← hjp3]; exact hjl), HMF.out (by rw [← HMID.out hjp3])]
                    have := HY.out
                    rw [hjp3] at this
                    rw [this]
                  have e2 : laidL p x (j' + 1) = true := laidL_high (by omega)
                  have HE1 := Lib.hid e1
                  have HE2 := Lib.hid e2
                  clear e1 e2 hjp3 hnth
                  have hcontra : ¬ th = true := by rw [hth]; simp
                  try exact absurd ht hcontra
                  all_goals
                    go_upto_region 33 with (at_builtin; go_must (refine wpList_append_rd _ rfl (.tmp 152) (.tmp 159) _ rfl V0.heap.size 39 i0 _ 3 24 Try.underlying23 hinf hz0 hz1 hz2 rfl (by omega) _ out.length (lcs out) rfl (HO3.out.alloc _) _ _ 1 1 _ rfl hrx (cells_one _) (by unfold maxLen; omega) (by omega) (by simp; omega) ?_); intro A5 c5 w5 h1 h2 hown1 hg1 hat1; have HBY1 : Hid (Bk w5 bY 39 #[.int .i64 xa, .int .i64 xi, .int .i64 xq]) := (HBY.out.alloc _).grown hg1 HNEB.out; have HO5 : Hid (w5.ownsRow V0.heap.size 39 3 (.slice A5 (out.length + 1) c5) (out.length + 1) (lcs (out ++ [x]))) := (by rw [lcs_append, lcs_single, HX0.out]; exact hown1); have HB5 : Hid (Below V0.heap.size V0 w5) := ((HB3.out.alloc hV3s _).grown hg1 (by simp; omega) (fun b hb => (HO3.out.lt b hb).1)); clear x0 x1 x2 z0 z1 z2 hxg hown1 hg1 hat1; obtain ⟨x0, x1, x2, z0, z1, z2, hxg⟩ := HBY1.out.three)
                    have hV5 : V0.heap.size ≤ w5.heap.size := HB5.out.size
                    have hry2 : Rd (w5.alloc (.cells #[.int .i64 xa, .int .i64 xi, .int .i64 xq] 39)) (w5.heap.size + 1) 3 (some ⟨w5.heap.size, 0, none⟩) 1 (Lc.cells ⟨xa, xi, xq⟩) := rd_one (x := ⟨xa, xi, xq⟩) (Bk.new _ _ _)
                    go_upto_region 34 with (at_builtin; go_must (refine wpList_append_rd _ rfl (.tmp 161) (.tmp 163) _ rfl V0.heap.size 39 i0 _ 3 24 Try.underlying23 hinf hz0 hz1 hz2 rfl (by omega) _ (out.length + 1) (lcs (out ++ [x])) rfl (HO5.out.alloc _) _ _ 1 1 _ rfl hry2 (cells_one _) (by unfold maxLen; omega) (by omega) (by simp; omega) ?_); intro A1 c1' w3 h1 h2 hown1 hg1 hat1)
                    go_wp2
                    have ho' : w3.ownsRow V0.heap.size 39 3 (.slice A1 ((out ++ [x]).length + 1) c1') ((out ++ [x]).length + 1) (lcs (out ++ [x]) ++ Lc.cells ⟨xa, xi, xq⟩) := by rw [List.length_append]; exact hown1
                    refine ⟨⟨j' + 1, by omega, by push_cast; rfl, A1, c1', ?_, by rw [HE2.out], by rw [HE1.out]; exact own_app ho', (HB5.out.alloc hV5 _).grown hg1 (by simp; omega) (fun b hb => (HO5.out.lt b hb).1)⟩, by simp only [intOf]; omega⟩
                    rw [HE1.out]
                    simp
          · have hjm : j' = m := by omega
            have j5 : ¬ ((j' : Int) < (m : Int)) := by omega
            have hpe : putL l p th x = out ++ (if lv = true then [] else [x]) := by
              have := @outL_end l p th x (by have := HLM.out; omega) (fun h => by have := HTHP.out h; have := HLM.out; omega)
              rw [this, HLM.out, ← hjm, ← HOUT.out, ← HLV.out]
            have HPE := Lib.hid hpe
            clear hpe
            cases lv with
            | true =>
              have e : r = (ys, out, 0) := by rw [HE.out, HPE.out]; simp
              subst e
              obtain ⟨_, _, hcc, h5, h6⟩ := own_form HO4.out
              injection hcc with hA2 _ hcc
              subst hA2 hcc
              go_wp2
              go_ret3
              have hres := res_make (er := 0) HC1.out HM1.out h5 h6 HOA.out HB4.out HO4.out hwV HBV.out
              rw [HYL.out] at hres
              exact hres
            | false =>
              obtain ⟨zs, hzs⟩ : ∃ zs, zs = out ++ [x] := ⟨_, rfl⟩
              have e : r = (ys, zs, 0) := by rw [HE.out, HPE.out, hzs]; simp
              subst e
              have hzl : zs.length = out.length + 1 := by rw [hzs]; simp
              have HZL := Lib.hid hzl
              have HZS := Lib.hid hzs
              clear hzl hzs
              have hrx : Rd (V4.alloc (.cells #[.int .i64 a, .int .i64 (k : Int), .int .i64 (h + q)] 39)) (V4.heap.size + 1) 3 (some ⟨V4.heap.size, 0, none⟩) 1 (Lc.cells ⟨a, k, h + q⟩) := rd_one (x := ⟨a, k, h + q⟩) (Bk.new _ _ _)
              go_upto_region 37 with (at_builtin; go_must (refine wpList_append_rd _ rfl (.tmp 168) (.tmp 175) _ rfl V0.heap.size 39 i0 _ 3 24 Try.underlying23 hinf hz0 hz1 hz2 rfl (by omega) _ out.length (lcs out) rfl (HO4.out.alloc _) _ _ 1 1 _ rfl hrx (cells_one _) (by unfold maxLen; omega) (by omega) (by simp; omega) ?_); intro A1 c1' w3 h1 h2 hown1 hg1 hat1)
              go_wp2
              go_ret3
              have ho' : w3.ownsRow V0.heap.size 39 3 (.slice A1 zs.length c1') zs.length (lcs zs) := by
                rw [HZL.out, HZS.out, lcs_append, lcs_single, HX0.out]
                exact hown1
              rw [← HZL.out] at h1 ⊢
              have hres := res_make (er := 0) HC1.out HM1.out h1 h2 HOA.out ((HB4.out.alloc hV4 _).grown hg1 (by simp; omega) (fun b hb => (HO4.out.lt b hb).1)) ho' hwV HBV.out
              rw [HYL.out] at hres
              exact hres

end Go.Proofs.Ytboehkcpgmpjjaa
