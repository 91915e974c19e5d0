/- SessOnce: a frame is lost. By gen_once.py. -/
import Derived.Test.YtkklghdmnkdofaaQ0
import Derived.Test.YtkklghdmnkdofaaN0
import Derived.Deep.DeepCutAuto
import Derived.Deep.CutBlock
import Derived.Deep.CutRange
namespace Go.Proofs.Ytkklghdmnkdofaa
open Go.RowKit

set_option maxRecDepth 1000000 in
set_option maxHeartbeats 8000000 in
theorem swLose (w : World) (G k bx me it : Nat) (who ii : Int) (x y : ED) (V1 : World) (Q : Exit → Act → World → Prop) (s0 s1 s2 s6 s10 s11 s12 s13 s14 s15 s16 s17 s18 s19 s20 s21 s22 s23 s24 s25 s26 s27 s28 s29 s30 s31 s32 s33 s34 s35 s36 s37 s38 s39 s40 s41 s43 s44 s45 s46 s47 s48 s49 s50 s51 s52 s53 s54 s55 s56 s57 s58 s59 s60 s61 s62 s63 s64 s65 s66 s67 s68 s69 s70 s71 s72 s73 s74 s75 s76 s77 s78 s79 s80 s81 s82 s83 s84 s85 s86 s87 s88 s89 s90 s91 s92 s93 s94 s95 s96 s97 s98 s99 s100 s101 s102 s103 s104 s105 s106 s107 s108 s109 s110 s111 s112 s113 s114 s115 s116 s117 s118 s119 s120 s121 s122 s123 s124 s125 s126 s127 s128 s129 s130 s131 s132 s133 s134 s135 s136 s137 s138 s139 s140 s141 s142 s143 s144 s145 s146 s147 s148 s149 s150 s151 s152 s153 s154 s155 s156 s157 s158 s159 s160 s161 s162 s163 s164 s165 s166 s167 s168 s169 s170 s171 s172 s173 s174 s175 s176 s177 s178 s179 s180 s181 s182 s183 s184 s185 s186 s187 s188 s189 s190 s191 s192 s193 s194 s195 s196 s197 s198 s199 s200 s201 s202 s203 s204 s205 s206 s207 s208 s209 s210 s211 s212 s213 s214 s215 s216 s217 s218 s219 s220 s221 s222 s223 s224 s225 s226 s227 s228 s229 s230 s231 s232 s233 s234 s235 : Value) (hz1 : w.heap.size ≤ G) (hme : me < 2) (hit : it = 1 - me) (hT : Two V1 G me x y) (hX : Half x.s x.u x.g y.s y.g) (hY : Half y.s y.u y.g x.s x.g) (hux : x.u.length ≤ 64 * k) (huy : y.u.length ≤ 64 * k) (hk : k < 256) (hbx : Bk V1 bx 49 #[.int .i64 3, .int .i64 who, .int .i64 ii]) (hbl : Below w.heap.size w V1) (hi0 : 0 ≤ ii) (hi1 : ii < x.u.length) (hi2 : (y.u.length : Int) ≤ 4096) (hn : ∀ (s10' s11' s12' s13' s14' s15' s16' s17' s18' s19' s43' s44' s45' s46' s47' s48' s49' s50' s51' s52' s53' s54' s55' s56' s57' s58' s59' s60' s61' s62' s63' s64' s65' s66' s67' s68' s69' s70' s71' s72' s73' s74' s75' s76' s77' s78' s79' s80' s81' s82' s83' s84' s85' s86' s87' s88' s89' s90' s91' s92' s93' s94' s95' s96' s97' s98' s99' s100' s101' s102' s103' s104' s105' s106' s107' s108' s109' s110' s111' s112' s113' s114' s115' s116' s117' s118' s119' s120' s121' s122' s123' s124' s125' s126' s127' s128' s129' s130' s131' s132' s133' s134' s135' s136' s137' s138' s139' s140' s141' s142' s143' s144' s145' s146' s147' s148' s149' s150' s151' s152' s153' s154' s155' s156' s157' s158' s159' s160' s161' s162' s163' s164' s165' s166' s167' s168' s169' s170' s171' s172' s173' s174' s175' s176' s177' s178' s179' : Value) (wx : World), OnceAt w G (k + 1) wx → Q .normal ⟨#[s0, s1, s2, .pointer (some ⟨G, 0, none⟩), .pointer (some ⟨G + 1, 0, none⟩), .pointer (some ⟨G + 1 + 1, 0, none⟩), s6, .pointer (some ⟨bx, 0, none⟩), .int .i64 (me : Int), .int .i64 (it : Int), s10', s11', s12', s13', s14', s15', s16', s17', s18', s19', s20, s21, s22, s23, s24, s25, s26, s27, s28, s29, s30, s31, s32, s33, s34, s35, s36, s37, s38, s39, s40, s41, .int .i64 3, s43', s44', s45', s46', s47', s48', s49', s50', s51', s52', s53', s54', s55', s56', s57', s58', s59', s60', s61', s62', s63', s64', s65', s66', s67', s68', s69', s70', s71', s72', s73', s74', s75', s76', s77', s78', s79', s80', s81', s82', s83', s84', s85', s86', s87', s88', s89', s90', s91', s92', s93', s94', s95', s96', s97', s98', s99', s100', s101', s102', s103', s104', s105', s106', s107', s108', s109', s110', s111', s112', s113', s114', s115', s116', s117', s118', s119', s120', s121', s122', s123', s124', s125', s126', s127', s128', s129', s130', s131', s132', s133', s134', s135', s136', s137', s138', s139', s140', s141', s142', s143', s144', s145', s146', s147', s148', s149', s150', s151', s152', s153', s154', s155', s156', s157', s158', s159', s160', s161', s162', s163', s164', s165', s166', s167', s168', s169', s170', s171', s172', s173', s174', s175', s176', s177', s178', s179', s180, s181, s182, s183, s184, s185, s186, s187, s188, s189, s190, s191, s192, s193, s194, s195, s196, s197, s198, s199, s200, s201, s202, s203, s204, s205, s206, s207, s208, s209, s210, s211, s212, s213, s214, s215, s216, s217, s218, s219, s220, s221, s222, s223, s224, s225, s226, s227, s228, s229, s230, s231, s232, s233, s234, s235], []⟩ wx) (hc : ∀ (s10' s11' s12' s13' s14' s15' s16' s17' s18' s19' s43' s44' s45' s46' s47' s48' s49' s50' s51' s52' s53' s54' s55' s56' s57' s58' s59' s60' s61' s62' s63' s64' s65' s66' s67' s68' s69' s70' s71' s72' s73' s74' s75' s76' s77' s78' s79' s80' s81' s82' s83' s84' s85' s86' s87' s88' s89' s90' s91' s92' s93' s94' s95' s96' s97' s98' s99' s100' s101' s102' s103' s104' s105' s106' s107' s108' s109' s110' s111' s112' s113' s114' s115' s116' s117' s118' s119' s120' s121' s122' s123' s124' s125' s126' s127' s128' s129' s130' s131' s132' s133' s134' s135' s136' s137' s138' s139' s140' s141' s142' s143' s144' s145' s146' s147' s148' s149' s150' s151' s152' s153' s154' s155' s156' s157' s158' s159' s160' s161' s162' s163' s164' s165' s166' s167' s168' s169' s170' s171' s172' s173' s174' s175' s176' s177' s178' s179' : Value) (wx : World), OnceAt w G (k + 1) wx → Q (.exit 1) ⟨#[s0, s1, s2, .pointer (some ⟨G, 0, none⟩), .pointer (some ⟨G + 1, 0, none⟩), .pointer (some ⟨G + 1 + 1, 0, none⟩), s6, .pointer (some ⟨bx, 0, none⟩), .int .i64 (me : Int), .int .i64 (it : Int), s10', s11', s12', s13', s14', s15', s16', s17', s18', s19', s20, s21, s22, s23, s24, s25, s26, s27, s28, s29, s30, s31, s32, s33, s34, s35, s36, s37, s38, s39, s40, s41, .int .i64 3, s43', s44', s45', s46', s47', s48', s49', s50', s51', s52', s53', s54', s55', s56', s57', s58', s59', s60', s61', s62', s63', s64', s65', s66', s67', s68', s69', s70', s71', s72', s73', s74', s75', s76', s77', s78', s79', s80', s81', s82', s83', s84', s85', s86', s87', s88', s89', s90', s91', s92', s93', s94', s95', s96', s97', s98', s99', s100', s101', s102', s103', s104', s105', s106', s107', s108', s109', s110', s111', s112', s113', s114', s115', s116', s117', s118', s119', s120', s121', s122', s123', s124', s125', s126', s127', s128', s129', s130', s131', s132', s133', s134', s135', s136', s137', s138', s139', s140', s141', s142', s143', s144', s145', s146', s147', s148', s149', s150', s151', s152', s153', s154', s155', s156', s157', s158', s159', s160', s161', s162', s163', s164', s165', s166', s167', s168', s169', s170', s171', s172', s173', s174', s175', s176', s177', s178', s179', s180, s181, s182, s183, s184, s185, s186, s187, s188, s189, s190, s191, s192, s193, s194, s195, s196, s197, s198, s199, s200, s201, s202, s203, s204, s205, s206, s207, s208, s209, s210, s211, s212, s213, s214, s215, s216, s217, s218, s219, s220, s221, s222, s223, s224, s225, s226, s227, s228, s229, s230, s231, s232, s233, s234, s235], []⟩ wx) : Code.wp Try.prog swCode Q ⟨#[s0, s1, s2, .pointer (some ⟨G, 0, none⟩), .pointer (some ⟨G + 1, 0, none⟩), .pointer (some ⟨G + 1 + 1, 0, none⟩), s6, .pointer (some ⟨bx, 0, none⟩), .int .i64 (me : Int), .int .i64 (it : Int), s10, s11, s12, s13, s14, s15, s16, s17, s18, s19, s20, s21, s22, s23, s24, s25, s26, s27, s28, s29, s30, s31, s32, s33, s34, s35, s36, s37, s38, s39, s40, s41, .int .i64 3, s43, s44, s45, s46, s47, s48, s49, s50, s51, s52, s53, s54, s55, s56, s57, s58, s59, s60, s61, s62, s63, s64, s65, s66, s67, s68, s69, s70, s71, s72, s73, s74, s75, s76, s77, s78, s79, s80, s81, s82, s83, s84, s85, s86, s87, s88, s89, s90, s91, s92, s93, s94, s95, s96, s97, s98, s99, s100, s101, s102, s103, s104, s105, s106, s107, s108, s109, s110, s111, s112, s113, s114, s115, s116, s117, s118, s119, s120, s121, s122, s123, s124, s125, s126, s127, s128, s129, s130, s131, s132, s133, s134, s135, s136, s137, s138, s139, s140, s141, s142, s143, s144, s145, s146, s147, s148, s149, s150, s151, s152, s153, s154, s155, s156, s157, s158, s159, s160, s161, s162, s163, s164, s165, s166, s167, s168, s169, s170, s171, s172, s173, s174, s175, s176, s177, s178, s179, s180, s181, s182, s183, s184, s185, s186, s187, s188, s189, s190, s191, s192, s193, s194, s195, s196, s197, s198, s199, s200, s201, s202, s203, s204, s205, s206, s207, s208, s209, s210, s211, s212, s213, s214, s215, s216, s217, s218, s219, s220, s221, s222, s223, s224, s225, s226, s227, s228, s229, s230, s231, s232, s233, s234, s235], []⟩ V1 := by
  have HT := Lib.hid hT
  have HX := Lib.hid hX
  have HY := Lib.hid hY
  have HIT := Lib.hid hit
  have HBX := Lib.hid hbx
  have HBL := Lib.hid hbl
  have HN := Lib.hid hn
  have HC := Lib.hid hc
  have hitI : (1 : Int) - (me : Int) = (it : Int) := by omega
  have hit2 : it < 2 := by omega
  have hme0 : (0 : Int) ≤ (me : Int) := by omega
  have hme1 : (me : Int) < 2 := by omega
  have hit0 : (0 : Int) ≤ (it : Int) := by omega
  have hit1 : (it : Int) < 2 := by omega
  clear hT hX hY hit hbx hbl hn hc
  conv => arg 2; whnf
  have hGV : G + 1 + 1 < V1.heap.size := HT.out.lt
  have hGV1 : G + 1 < V1.heap.size := by omega
  obtain ⟨_, pu, _, _, yu, _⟩ := HT.out.cells hme
  obtain ⟨_, qu, _, _, zu, _⟩ := (HT.out.swap hme).cells (by omega)
  rw [← HIT.out] at qu zu
  obtain ⟨m0, m1, m2, mz0, mz1, mz2, hmg⟩ := HBX.out.three
  go_upto_region 28 with (fail)
  have b1 : 0 ≤ ii := hi0
  have b2 : ii < x.u.length := hi1
  have b3 : (y.u.length : Int) ≤ 4096 := hi2
  obtain ⟨q, rfl⟩ : ∃ q : Nat, ii = q := ⟨ii.toNat, by omega⟩
  have hql : q < x.u.length := by omega
  have d1 : ¬ ((q : Int) < 0) := by omega
  have d2 : ¬ ((x.u.length : Int) ≤ (q : Int)) := by omega
  have d3 : ¬ (x.u.length ≤ q) := by omega
  have d4 : ¬ (4096 < (y.u.length : Int)) := by omega
  go_quiet (fail)
  clear pu yu qu zu m0 m1 m2 mz0 mz1 mz2 hmg
  rename Nat => n0
  obtain ⟨V2, hV2⟩ : ∃ V2, V2 = V1.drewN n0 := ⟨_, rfl⟩
  have HT2 : Hid (Two V2 G me x y) := by rw [hV2]; exact HT.out.keep fun _ _ => rfl
  have HB2 : Hid (Below w.heap.size w V2) := by rw [hV2]; exact ⟨HBL.out.os, HBL.out.tape, HBL.out.output, HBL.out.size, HBL.out.block⟩
  have HX2 : Hid (Bk V2 bx 49 #[.int .i64 3, .int .i64 who, .int .i64 (q : Int)]) := by rw [hV2]; exact HBX.out
  go_upto_region 29 with (fail)
  rw [← hV2]
  clear hV2
  obtain ⟨_, pu, _, _, yu, _⟩ := HT2.out.cells hme
  obtain ⟨m0, m1, m2, mz0, mz1, mz2, hmg⟩ := HX2.out.three
  obtain ⟨b0, hxB, _, r0, r1, r2, r3⟩ := (Rd.of_own HT2.out.xB).frame hql
  rw [hxB] at pu
  obtain ⟨f, hf⟩ : ∃ f, f = x.u[q] := ⟨_, rfl⟩
  have hfm : f ∈ x.u := by rw [hf]; exact List.getElem_mem _
  rw [← hf] at r0 r1 r2 r3
  have HFM := Lib.hid hfm
  have HXB := Lib.hid hxB
  clear hf hxB hfm
  have hq0 : (0 : Int) ≤ (q : Int) := by omega
  have hq1 : (q : Int) < (x.u.length : Int) := by omega
  go_cut [15] from 120 to 126 (fun v wx => ∃ h, v = .pointer (some ⟨h, 0, none⟩) ∧ V2.heap.size ≤ h ∧ Bk wx h 26 #[.int .i64 f.kind, .int .i64 f.num, .int .i64 f.taken, .string f.body] ∧ Below V2.heap.size V2 wx)
  case first =>
    have HS : Hid (∀ w', Below V2.heap.size V2 w' → (fun w' => Below V2.heap.size V2 w' ∧ w'.cell? ⟨G + 1, me, none⟩ = some (.slice (some b0) x.u.length x.d) ∧ w'.cell? ⟨bx, 2, none⟩ = some (.int .i64 (q : Int)) ∧
        w'.cell? (b0.add (q * 4)) = some (.int .i64 f.kind) ∧ w'.cell? ⟨(b0.add (q * 4)).block, (b0.add (q * 4)).off + 1, none⟩ = some (.int .i64 f.num) ∧ w'.cell? ⟨(b0.add (q * 4)).block, (b0.add (q * 4)).off + 2, none⟩ = some (.int .i64 f.taken) ∧ w'.cell? ⟨(b0.add (q * 4)).block, (b0.add (q * 4)).off + 3, none⟩ = some (.string f.body)) w') := fun w' h => by
      refine ⟨h, ?_, ?_, ?_, ?_, ?_, ?_⟩
      · rw [h.cell (World.block_lt_of_cell? _ _ pu)]; exact pu
      · rw [h.cell (World.block_lt_of_cell? _ _ m2)]; exact m2
      · rw [h.cell (World.block_lt_of_cell? _ _ r0)]; exact r0
      · rw [h.cell (World.block_lt_of_cell? _ _ r1)]; exact r1
      · rw [h.cell (World.block_lt_of_cell? _ _ r2)]; exact r2
      · rw [h.cell (World.block_lt_of_cell? _ _ r3)]; exact r3
    refine wp_region_noPanic ?_
    go_region_held (fun w' => Below V2.heap.size V2 w' ∧ w'.cell? ⟨G + 1, me, none⟩ = some (.slice (some b0) x.u.length x.d) ∧ w'.cell? ⟨bx, 2, none⟩ = some (.int .i64 (q : Int)) ∧
        w'.cell? (b0.add (q * 4)) = some (.int .i64 f.kind) ∧ w'.cell? ⟨(b0.add (q * 4)).block, (b0.add (q * 4)).off + 1, none⟩ = some (.int .i64 f.num) ∧ w'.cell? ⟨(b0.add (q * 4)).block, (b0.add (q * 4)).off + 2, none⟩ = some (.int .i64 f.taken) ∧ w'.cell? ⟨(b0.add (q * 4)).block, (b0.add (q * 4)).off + 3, none⟩ = some (.string f.body))
      (first
        | with_reducible assumption
        | (refine HS.out _ ?_; repeat (first | with_reducible exact Below.refl _ _ | with_reducible refine Below.drew ?_ | (with_reducible refine Below.alloc ?_ ?_ _; rotate_left; (first | exact Nat.le_refl _ | (simp; omega))))))
      (fail)
    all_goals
      refine NoPanic.normal ?_
      go_wp2_with fail
      go_meet
      refine ⟨_, rfl, Nat.le_refl _, ?_, ?_⟩
      · repeat (first | with_reducible exact Bk.new _ _ _ | with_reducible refine Bk.drew ?_)
      · repeat (first | with_reducible exact Below.refl _ _ | with_reducible refine Below.drew ?_ | with_reducible refine Below.alloc ?_ (Nat.le_refl _) _)
  case rest =>
    obtain ⟨h, rfl, hh, hbf, hb3⟩ := hcut
    rename World => V3
    have HT3 : Hid (Two V3 G me x y) := HT2.out.below hb3 (Nat.le_refl _)
    have HB3 : Hid (Below w.heap.size w V3) := HB2.out.trans (hb3.mono HB2.out.size)
    have HX3 : Hid (Bk V3 bx 49 #[.int .i64 3, .int .i64 who, .int .i64 (q : Int)]) := HX2.out.below hb3 HX2.out.lt
    have HBF := Lib.hid hbf
    have hsz3 := hb3.size
    clear pu yu m0 m1 m2 mz0 mz1 mz2 hmg r0 r1 r2 r3 hbf hb3
    obtain ⟨m0, m1, m2, mz0, mz1, mz2, hmg⟩ := HX3.out.three
    have HRX : Hid (Rd V3 V3.heap.size 4 (some b0) x.u.length (frs x.u)) := by have h := Rd.of_own HT3.out.xB; rw [HXB.out] at h; exact h
    obtain ⟨_, pu, _, _, yu, _⟩ := HT3.out.cells hme
    rw [HXB.out] at pu
    have hxd : x.u.length ≤ x.d ∧ x.d ≤ maxLen := by
      obtain ⟨A0, c0, he, h1, h2⟩ := own_form HT3.out.xB
      injection he with _ _ he
      subst he
      exact ⟨h1, h2⟩
    obtain ⟨hxd1, hxd2⟩ := hxd
    have hxu : x.u.length ≤ 20000 := by omega
    have hxd3 : x.d ≤ 9223372036854775807 := by unfold maxLen at hxd2; omega
    have i1 : (q : Int) ≤ (x.d : Int) := by omega
    have i2 : (0 : Int) ≤ (q : Int) + 1 := by omega
    have i3 : (q : Int) + 1 ≤ (x.u.length : Int) := by omega
    have i4 : (x.u.length : Int) ≤ (x.d : Int) := by omega
    have hG3 : G + 1 + 1 < V3.heap.size := HT3.out.lt
    have hG31 : G + 1 < V3.heap.size := by omega
    obtain ⟨i0, hi, hz0, hzs, hz2⟩ := info_parts info26
    have iw : IntKind.i64.wrap ((q : Int) + 1) = (q : Int) + 1 := IntWalk.i64_in _ (by omega)
    have it1 : ((q : Int) + 1).toNat = q + 1 := by omega
    obtain ⟨A9, hA9, HRD⟩ : ∃ A9, (if x.d = q + 1 then some b0 else some (b0.add ((q + 1) * 4))) = A9 ∧ Hid (∀ w4, Below V3.heap.size V3 w4 → Rd w4 V3.heap.size 4 A9 (x.u.length - (q + 1)) (frs (x.u.drop (q + 1)))) := by
      by_cases hd : x.d = q + 1
      · refine ⟨some b0, by rw [if_pos hd], fun w4 _ => ?_⟩
        have h0 : x.u.length - (q + 1) = 0 := by omega
        have hdr : x.u.drop (q + 1) = [] := List.drop_eq_nil_of_le (by omega)
        rw [h0, hdr]
        exact Rd.nil _ _ _ _
      · exact ⟨_, by rw [if_neg hd], fun w4 hw => (HRX.out.below hw).drop (by omega)⟩
    go_upto_region 31 with (fail)
    have HS : Hid (∀ w', Below V3.heap.size V3 w' → (fun w' => Below V3.heap.size V3 w' ∧ w'.cell? ⟨G + 1, me, none⟩ = some (.slice (some b0) x.u.length x.d) ∧ w'.cell? ⟨bx, 2, none⟩ = some (.int .i64 (q : Int))) w') := fun w' h => ⟨h, (h.cell (World.block_lt_of_cell? _ _ pu)).trans pu, (h.cell (World.block_lt_of_cell? _ _ m2)).trans m2⟩
    have hS := HS.out _ (Below.refl _ V3).drew
    refine wp_region_noPanic ?_
    refine region_anyL (fun w' => Below V3.heap.size V3 w' ∧ w'.cell? ⟨G + 1, me, none⟩ = some (.slice (some b0) x.u.length x.d) ∧ w'.cell? ⟨bx, 2, none⟩ = some (.int .i64 (q : Int))) 18 (by kernel_rfl) ?_
    refine anyL_take (i := 0) (oi := { dst := some 130, op := Op.move (Operand.tmp 8), type := 3, pos := "law.go:119", after := #[], guard := none }) (v := ?_) rfl (by kernel_rfl) (by kernel_rfl) (by kernel_rfl) (by kernel_rfl) (fun _ _ _ h => h) (Or.inl ⟨by rfl, ?_⟩) hS ?_
    rotate_left
    · intro w hSw
      try dsimp only at hSw
      obtain ⟨_, e1, e2⟩ := hSw
      first | (go_simp <;> fail) | (go_simp; with_reducible rfl)
    simp only [Act.put, List.setIfInBounds_toArray, List.set_cons_zero, List.set_cons_succ]
    refine anyL_take (i := 2) (oi := { dst := some 132, op := Op.move (Operand.tmp 8), type := 3, pos := "law.go:119", after := #[], guard := none }) (v := ?_) rfl (by kernel_rfl) (by kernel_rfl) (by kernel_rfl) (by kernel_rfl) (fun _ _ _ h => h) (Or.inl ⟨by rfl, ?_⟩) hS ?_
    rotate_left
    · intro w hSw
      try dsimp only at hSw
      obtain ⟨_, e1, e2⟩ := hSw
      first | (go_simp <;> fail) | (go_simp; with_reducible rfl)
    simp only [Act.put, List.setIfInBounds_toArray, List.set_cons_zero, List.set_cons_succ]
    refine anyL_take (i := 3) (oi := { dst := some 133, op := Op.indexAddr 46 (Operand.tmp 4) (Operand.tmp 132), type := 0, pos := "law.go:119", after := #[{ on := 2, ground := Ground.data }], guard := none }) (v := ?_) rfl (by kernel_rfl) (by kernel_rfl) (by kernel_rfl) (by kernel_rfl) (fun _ _ _ h => h) (Or.inl ⟨by rfl, ?_⟩) hS ?_
    rotate_left
    · intro w hSw
      try dsimp only at hSw
      obtain ⟨_, e1, e2⟩ := hSw
      first | (go_simp <;> fail) | (go_simp; with_reducible rfl)
    simp only [Act.put, List.setIfInBounds_toArray, List.set_cons_zero, List.set_cons_succ]
    refine anyL_take (i := 4) (oi := { dst := some 134, op := Op.load 28 (Operand.tmp 133), type := 28, pos := "law.go:119", after := #[{ on := 3, ground := Ground.data }], guard := none }) (v := ?_) rfl (by kernel_rfl) (by kernel_rfl) (by kernel_rfl) (by kernel_rfl) (fun _ _ _ h => h) (Or.inl ⟨by rfl, ?_⟩) hS ?_
    rotate_left
    · intro w hSw
      try dsimp only at hSw
      obtain ⟨_, e1, e2⟩ := hSw
      first | (go_simp <;> fail) | (go_simp; with_reducible rfl)
    simp only [Act.put, List.setIfInBounds_toArray, List.set_cons_zero, List.set_cons_succ]
    refine anyL_take (i := 5) (oi := { dst := some 135, op := Op.fieldAddr 49 (Operand.tmp 7) 2, type := 0, pos := "law.go:119", after := #[], guard := none }) (v := ?_) rfl (by kernel_rfl) (by kernel_rfl) (by kernel_rfl) (by kernel_rfl) (fun _ _ _ h => h) (Or.inl ⟨by rfl, ?_⟩) hS ?_
    rotate_left
    · intro w hSw
      try dsimp only at hSw
      obtain ⟨_, e1, e2⟩ := hSw
      first | (go_simp <;> fail) | (go_simp; with_reducible rfl)
    simp only [Act.put, List.setIfInBounds_toArray, List.set_cons_zero, List.set_cons_succ]
    refine anyL_take (i := 6) (oi := { dst := some 136, op := Op.load 3 (Operand.tmp 135), type := 3, pos := "law.go:119", after := #[{ on := 5, ground := Ground.data }], guard := none }) (v := ?_) rfl (by kernel_rfl) (by kernel_rfl) (by kernel_rfl) (by kernel_rfl) (fun _ _ _ h => h) (Or.inl ⟨by rfl, ?_⟩) hS ?_
    rotate_left
    · intro w hSw
      try dsimp only at hSw
      obtain ⟨_, e1, e2⟩ := hSw
      first | (go_simp <;> fail) | (go_simp; with_reducible rfl)
    simp only [Act.put, List.setIfInBounds_toArray, List.set_cons_zero, List.set_cons_succ]
    refine anyL_take (i := 7) (oi := { dst := some 137, op := Op.slice 28 (Operand.tmp 134) none (some (Operand.tmp 136)) none, type := 28, pos := "law.go:119", after := #[{ on := 4, ground := Ground.data }, { on := 6, ground := Ground.data }], guard := none }) (v := ?_) rfl (by kernel_rfl) (by kernel_rfl) (by kernel_rfl) (by kernel_rfl) (fun _ _ _ h => h) (Or.inl ⟨by rfl, ?_⟩) hS ?_
    rotate_left
    · intro w hSw
      try dsimp only at hSw
      obtain ⟨_, e1, e2⟩ := hSw
      first | (go_simp <;> fail) | (go_simp; with_reducible rfl)
    simp only [Act.put, List.setIfInBounds_toArray, List.set_cons_zero, List.set_cons_succ]
    refine anyL_take (i := 9) (oi := { dst := some 139, op := Op.move (Operand.tmp 8), type := 3, pos := "law.go:119", after := #[], guard := none }) (v := ?_) rfl (by kernel_rfl) (by kernel_rfl) (by kernel_rfl) (by kernel_rfl) (fun _ _ _ h => h) (Or.inl ⟨by rfl, ?_⟩) hS ?_
    rotate_left
    · intro w hSw
      try dsimp only at hSw
      obtain ⟨_, e1, e2⟩ := hSw
      first | (go_simp <;> fail) | (go_simp; with_reducible rfl)
    simp only [Act.put, List.setIfInBounds_toArray, List.set_cons_zero, List.set_cons_succ]
    refine anyL_take (i := 10) (oi := { dst := some 140, op := Op.indexAddr 46 (Operand.tmp 4) (Operand.tmp 139), type := 0, pos := "law.go:119", after := #[{ on := 9, ground := Ground.data }], guard := none }) (v := ?_) rfl (by kernel_rfl) (by kernel_rfl) (by kernel_rfl) (by kernel_rfl) (fun _ _ _ h => h) (Or.inl ⟨by rfl, ?_⟩) hS ?_
    rotate_left
    · intro w hSw
      try dsimp only at hSw
      obtain ⟨_, e1, e2⟩ := hSw
      first | (go_simp <;> fail) | (go_simp; with_reducible rfl)
    simp only [Act.put, List.setIfInBounds_toArray, List.set_cons_zero, List.set_cons_succ]
    refine anyL_take (i := 11) (oi := { dst := some 141, op := Op.load 28 (Operand.tmp 140), type := 28, pos := "law.go:119", after := #[{ on := 10, ground := Ground.data }], guard := none }) (v := ?_) rfl (by kernel_rfl) (by kernel_rfl) (by kernel_rfl) (by kernel_rfl) (fun _ _ _ h => h) (Or.inl ⟨by rfl, ?_⟩) hS ?_
    rotate_left
    · intro w hSw
      try dsimp only at hSw
      obtain ⟨_, e1, e2⟩ := hSw
      first | (go_simp <;> fail) | (go_simp; with_reducible rfl)
    simp only [Act.put, List.setIfInBounds_toArray, List.set_cons_zero, List.set_cons_succ]
    refine anyL_take (i := 12) (oi := { dst := some 142, op := Op.fieldAddr 49 (Operand.tmp 7) 2, type := 0, pos := "law.go:119", after := #[], guard := none }) (v := ?_) rfl (by kernel_rfl) (by kernel_rfl) (by kernel_rfl) (by kernel_rfl) (fun _ _ _ h => h) (Or.inl ⟨by rfl, ?_⟩) hS ?_
    rotate_left
    · intro w hSw
      try dsimp only at hSw
      obtain ⟨_, e1, e2⟩ := hSw
      first | (go_simp <;> fail) | (go_simp; with_reducible rfl)
    simp only [Act.put, List.setIfInBounds_toArray, List.set_cons_zero, List.set_cons_succ]
    refine anyL_take (i := 13) (oi := { dst := some 143, op := Op.load 3 (Operand.tmp 142), type := 3, pos := "law.go:119", after := #[{ on := 12, ground := Ground.data }], guard := none }) (v := ?_) rfl (by kernel_rfl) (by kernel_rfl) (by kernel_rfl) (by kernel_rfl) (fun _ _ _ h => h) (Or.inl ⟨by rfl, ?_⟩) hS ?_
    rotate_left
    · intro w hSw
      try dsimp only at hSw
      obtain ⟨_, e1, e2⟩ := hSw
      first | (go_simp <;> fail) | (go_simp; with_reducible rfl)
    simp only [Act.put, List.setIfInBounds_toArray, List.set_cons_zero, List.set_cons_succ]
    refine anyL_take (i := 14) (oi := { dst := some 144, op := Op.binOp BinOp.add 3 (Operand.tmp 143) (Operand.const (Value.int IntKind.i64 1)) 3, type := 3, pos := "law.go:119", after := #[{ on := 13, ground := Ground.data }], guard := none }) (v := ?_) rfl (by kernel_rfl) (by kernel_rfl) (by kernel_rfl) (by kernel_rfl) (fun _ _ _ h => h) (Or.inl ⟨by rfl, ?_⟩) hS ?_
    rotate_left
    · intro w hSw
      try dsimp only at hSw
      obtain ⟨_, e1, e2⟩ := hSw
      first | (go_simp <;> fail) | (go_simp; with_reducible rfl)
    simp only [Act.put, List.setIfInBounds_toArray, List.set_cons_zero, List.set_cons_succ]
    refine anyL_take (i := 15) (oi := { dst := some 145, op := Op.slice 28 (Operand.tmp 141) (some (Operand.tmp 144)) none none, type := 28, pos := "law.go:119", after := #[{ on := 11, ground := Ground.data }, { on := 14, ground := Ground.data }], guard := none }) (v := ?_) rfl (by kernel_rfl) (by kernel_rfl) (by kernel_rfl) (by kernel_rfl) (fun _ _ _ h => h) (Or.inl ⟨by rfl, ?_⟩) hS ?_
    rotate_left
    · intro w hSw
      try dsimp only at hSw
      obtain ⟨_, e1, e2⟩ := hSw
      first | (go_simp <;> fail) | (go_simp; with_reducible rfl)
    simp only [Act.put, List.setIfInBounds_toArray, List.set_cons_zero, List.set_cons_succ]
    refine anyL_one (i := 1) (o := { dst := some 131, op := Op.buildSlice 28 0 #[], type := 28, pos := "law.go:119", after := #[], guard := none }) (by kernel_rfl) rfl (fun K hK => ?_)
    go_simp
    refine hK.out _ _ ?_ ?_
    · exact fun _ => HS.out _ ((Below.refl _ V3).drew.alloc (Nat.le_refl _) _)
    clear hK K
    refine anyL_one (i := 8) (o := { dst := some 138, op := Op.call { callee := Callee.builtin Builtin.append, args := #[Operand.tmp 131, Operand.tmp 137], argTypes := #[28, 28] }, type := 28, pos := "law.go:119", after := #[{ on := 1, ground := Ground.data }, { on := 7, ground := Ground.data }], guard := none }) (by kernel_rfl) rfl (fun K hK => ?_)
    refine step_append_rd _ (by rfl) (.tmp 131) (.tmp 137) _ (by rfl) V3.heap.size 26 i0 _ 4 40 Try.underlying28 hi hz0 hzs hz2 rfl (by omega) _ 0 [] (by rfl) (own_empty4 (Bk.new _ _ _) (Nat.le_refl _)) V3.heap.size (some b0) q x.d (frs (x.u.take q)) (by rfl) ((HRX.out.take (by omega)).alloc (Nat.le_refl _) _) (frs_one _) (by unfold maxLen; omega) (by omega) (by simp) ?_
    intro A4 c4 w4 hc4 hm4 hown4 hg4 hat4
    have hB4 : Below V3.heap.size V3 w4 := (by first | exact lose_below hg4 | exact lose_below (grown_drew' hg4))
    have pu4 := hB4.cell (p := ⟨G + 1, me, none⟩) hG31 |>.trans pu
    have yu4 := hB4.frozen (p := ⟨G + 1, me, none⟩) hG31 |>.trans yu
    have m24 := hB4.cell (p := ⟨bx, 2, none⟩) hmg |>.trans m2
    have su4 : G + 1 < w4.heap.size := Nat.lt_of_lt_of_le hG31 hB4.size
    simp only [Nat.zero_add, List.nil_append] at hown4 hc4
    have HB4 := Lib.hid hB4
    have HOWN4 := Lib.hid hown4
    clear hB4 hown4 hg4 hat4
    try simp only [Act.put, List.setIfInBounds_toArray, List.set_cons_zero, List.set_cons_succ, Nat.zero_add]
    refine hK.out _ _ ?_ ?_
    · exact fun _ => HS.out _ HB4.out
    clear hK K
    refine anyL_one (i := 16) (o := { dst := some 146, op := Op.call { callee := Callee.builtin Builtin.append, args := #[Operand.tmp 138, Operand.tmp 145], argTypes := #[28, 28] }, type := 28, pos := "law.go:119", after := #[{ on := 8, ground := Ground.data }, { on := 15, ground := Ground.data }, { on := 8, ground := Ground.chain }], guard := none }) (by kernel_rfl) rfl (fun K hK => ?_)
    refine step_append_rd _ (by rfl) (.tmp 138) (.tmp 145) _ (by rfl) V3.heap.size 26 i0 _ 4 40 Try.underlying28 hi hz0 hzs hz2 rfl (by omega) _ q (frs (x.u.take q)) (by rfl) HOWN4.out V3.heap.size _ _ _ (frs (x.u.drop (q + 1))) (by rfl) (HRD.out _ HB4.out) (frs_one _) (by unfold maxLen; omega) (by omega) (by have := HB4.out.size; omega) ?_
    intro A5 c5 w5 hc5 hm5 hown5 hg5 hat5
    have hB5 : Below V3.heap.size V3 w5 := HB4.out.grown hg5 HB4.out.size (fun k hk => (HOWN4.out.lt k hk).1)
    have pu5 := hB5.cell (p := ⟨G + 1, me, none⟩) hG31 |>.trans pu
    have yu5 := hB5.frozen (p := ⟨G + 1, me, none⟩) hG31 |>.trans yu
    have su5 : G + 1 < w5.heap.size := Nat.lt_of_lt_of_le hG31 hB5.size
    have HB5 := Lib.hid hB5
    have HOWN5 := Lib.hid hown5
    clear hB5 hown5 hg5 hat5
    try simp only [Act.put, List.setIfInBounds_toArray, List.set_cons_zero, List.set_cons_succ]
    refine hK.out _ _ ?_ ?_
    · exact fun _ => HS.out _ HB5.out
    clear hK K
    refine anyL_one (i := 17) (o := { dst := some 147, op := Op.indexAddr 46 (Operand.tmp 4) (Operand.tmp 130), type := 0, pos := "law.go:119", after := #[{ on := 0, ground := Ground.data }, { on := 0, ground := Ground.phase }, { on := 1, ground := Ground.phase }, { on := 2, ground := Ground.phase }, { on := 3, ground := Ground.phase }, { on := 4, ground := Ground.phase }, { on := 5, ground := Ground.phase }, { on := 6, ground := Ground.phase }, { on := 7, ground := Ground.phase }, { on := 8, ground := Ground.phase }, { on := 9, ground := Ground.phase }, { on := 10, ground := Ground.phase }, { on := 11, ground := Ground.phase }, { on := 12, ground := Ground.phase }, { on := 13, ground := Ground.phase }, { on := 14, ground := Ground.phase }, { on := 15, ground := Ground.phase }, { on := 16, ground := Ground.phase }], guard := none }) (by kernel_rfl) rfl (fun K hK => ?_)
    go_simp
    refine hK.out _ _ ?_ ?_
    · exact fun _ => HS.out _ HB5.out
    clear hK K
    refine anyL_one (i := 18) (o := { dst := none, op := Op.store 28 (Operand.tmp 147) (Operand.tmp 146), type := 0, pos := "law.go:119", after := #[{ on := 17, ground := Ground.data }, { on := 16, ground := Ground.data }, { on := 16, ground := Ground.chain }, { on := 0, ground := Ground.phase }, { on := 1, ground := Ground.phase }, { on := 2, ground := Ground.phase }, { on := 3, ground := Ground.phase }, { on := 4, ground := Ground.phase }, { on := 5, ground := Ground.phase }, { on := 6, ground := Ground.phase }, { on := 7, ground := Ground.phase }, { on := 8, ground := Ground.phase }, { on := 9, ground := Ground.phase }, { on := 10, ground := Ground.phase }, { on := 11, ground := Ground.phase }, { on := 12, ground := Ground.phase }, { on := 13, ground := Ground.phase }, { on := 14, ground := Ground.phase }, { on := 15, ground := Ground.phase }, { on := 16, ground := Ground.phase }], guard := none }) (by kernel_rfl) rfl (fun K hK => ?_)
    go_simp
    refine hK.out _ _ ?_ ?_
    · exact fun h => absurd rfl h
    clear hK K
    refine anyL_done (by kernel_rfl) ?_ _
    all_goals
      refine NoPanic.normal ?_
      go_wp2
      apply HC.out
      obtain ⟨l, hl⟩ : ∃ l, l = x.u.take q ++ x.u.drop (q + 1) := ⟨_, rfl⟩
      have hll : l.length = q + (x.u.length - (q + 1)) := by rw [hl, List.length_append, List.length_take, List.length_drop]; omega
      have ho := HOWN5.out
      rw [← frs_append, ← hl, ← hll] at ho
      have hB5 := HB5.out
      have ht := HT3.out.putU hme (w' := w5) (B' := A5) (d' := c5) (l := l) ⟨hB5.os, hB5.tape, hB5.output, hB5.size, fun k hk _ => hB5.block k hk⟩ (own_mono ho (by omega)) (.inr fun p hp => (own_lt ho p hp).1)
      rw [hll] at ht
      refine once_back hme ht (lose_step HX.out fun f hf => ?_) HY.out (by dsimp only; omega) (by omega) (Below.setCell (HB3.out.trans (hB5.mono HB3.out.size)) (by show w.heap.size ≤ G + 1; omega) _)
      rw [hl] at hf
      rcases List.mem_append.1 hf with h1 | h1
      · exact List.mem_of_mem_take h1
      · exact List.mem_of_mem_drop h1

end Go.Proofs.Ytkklghdmnkdofaa
