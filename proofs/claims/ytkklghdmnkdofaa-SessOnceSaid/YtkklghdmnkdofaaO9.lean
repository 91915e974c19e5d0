/- SessOnce: a frame comes. By gen_once.py. -/
import Derived.Test.YtkklghdmnkdofaaQ0
import Derived.Deep.DeepCutAuto
import Derived.Deep.CutBlock
import Derived.Deep.CutRange
namespace Go.Proofs.Ytkklghdmnkdofaa
open Go.RowKit

set_option maxRecDepth 1000000 in
set_option maxHeartbeats 8000000 in
theorem swTake (w : World) (G k bx me it : Nat) (who ii : Int) (x y : ED) (V1 : World) (Q : Exit → Act → World → Prop) (s0 s1 s2 s6 s10 s11 s12 s13 s14 s15 s16 s17 s18 s19 s20 s21 s22 s23 s24 s25 s26 s27 s28 s29 s30 s31 s32 s33 s34 s35 s36 s37 s38 s39 s40 s41 s43 s44 s45 s46 s47 s48 s49 s50 s51 s52 s53 s54 s55 s56 s57 s58 s59 s60 s61 s62 s63 s64 s65 s66 s67 s68 s69 s70 s71 s72 s73 s74 s75 s76 s77 s78 s79 s80 s81 s82 s83 s84 s85 s86 s87 s88 s89 s90 s91 s92 s93 s94 s95 s96 s97 s98 s99 s100 s101 s102 s103 s104 s105 s106 s107 s108 s109 s110 s111 s112 s113 s114 s115 s116 s117 s118 s119 s120 s121 s122 s123 s124 s125 s126 s127 s128 s129 s130 s131 s132 s133 s134 s135 s136 s137 s138 s139 s140 s141 s142 s143 s144 s145 s146 s147 s148 s149 s150 s151 s152 s153 s154 s155 s156 s157 s158 s159 s160 s161 s162 s163 s164 s165 s166 s167 s168 s169 s170 s171 s172 s173 s174 s175 s176 s177 s178 s179 s180 s181 s182 s183 s184 s185 s186 s187 s188 s189 s190 s191 s192 s193 s194 s195 s196 s197 s198 s199 s200 s201 s202 s203 s204 s205 s206 s207 s208 s209 s210 s211 s212 s213 s214 s215 s216 s217 s218 s219 s220 s221 s222 s223 s224 s225 s226 s227 s228 s229 s230 s231 s232 s233 s234 s235 : Value) (hz1 : w.heap.size ≤ G) (hme : me < 2) (hit : it = 1 - me) (hT : Two V1 G me x y) (hX : Half x.s x.u x.g y.s y.g) (hY : Half y.s y.u y.g x.s x.g) (hux : x.u.length ≤ 64 * k) (huy : y.u.length ≤ 64 * k) (hbx : Bk V1 bx 49 #[.int .i64 2, .int .i64 who, .int .i64 ii]) (hbl : Below w.heap.size w V1) (hi0 : 0 ≤ ii) (hi1 : ii < x.u.length) (hi2 : (y.u.length : Int) ≤ 4096) (hn : ∀ (s10' s11' s12' s13' s14' s15' s16' s17' s18' s19' s43' s44' s45' s46' s47' s48' s49' s50' s51' s52' s53' s54' s55' s56' s57' s58' s59' s60' s61' s62' s63' s64' s65' s66' s67' s68' s69' s70' s71' s72' s73' s74' s75' s76' s77' s78' s79' s80' s81' s82' s83' s84' s85' s86' s87' s88' s89' s90' s91' s92' s93' s94' s95' s96' s97' s98' s99' s100' s101' s102' s103' s104' s105' s106' s107' s108' s109' s110' s111' s112' s113' s114' s115' s116' s117' s118' s119' s120' s121' s122' s123' s124' s125' s126' s127' s128' s129' s130' s131' s132' s133' s134' s135' s136' s137' s138' s139' s140' s141' s142' s143' s144' s145' s146' s147' s148' s149' s150' s151' s152' s153' s154' s155' s156' s157' s158' s159' s160' s161' s162' s163' s164' s165' s166' s167' s168' s169' s170' s171' s172' s173' s174' s175' s176' s177' s178' s179' : Value) (wx : World), OnceAt w G (k + 1) wx → Q .normal ⟨#[s0, s1, s2, .pointer (some ⟨G, 0, none⟩), .pointer (some ⟨G + 1, 0, none⟩), .pointer (some ⟨G + 1 + 1, 0, none⟩), s6, .pointer (some ⟨bx, 0, none⟩), .int .i64 (me : Int), .int .i64 (it : Int), s10', s11', s12', s13', s14', s15', s16', s17', s18', s19', s20, s21, s22, s23, s24, s25, s26, s27, s28, s29, s30, s31, s32, s33, s34, s35, s36, s37, s38, s39, s40, s41, .int .i64 2, s43', s44', s45', s46', s47', s48', s49', s50', s51', s52', s53', s54', s55', s56', s57', s58', s59', s60', s61', s62', s63', s64', s65', s66', s67', s68', s69', s70', s71', s72', s73', s74', s75', s76', s77', s78', s79', s80', s81', s82', s83', s84', s85', s86', s87', s88', s89', s90', s91', s92', s93', s94', s95', s96', s97', s98', s99', s100', s101', s102', s103', s104', s105', s106', s107', s108', s109', s110', s111', s112', s113', s114', s115', s116', s117', s118', s119', s120', s121', s122', s123', s124', s125', s126', s127', s128', s129', s130', s131', s132', s133', s134', s135', s136', s137', s138', s139', s140', s141', s142', s143', s144', s145', s146', s147', s148', s149', s150', s151', s152', s153', s154', s155', s156', s157', s158', s159', s160', s161', s162', s163', s164', s165', s166', s167', s168', s169', s170', s171', s172', s173', s174', s175', s176', s177', s178', s179', s180, s181, s182, s183, s184, s185, s186, s187, s188, s189, s190, s191, s192, s193, s194, s195, s196, s197, s198, s199, s200, s201, s202, s203, s204, s205, s206, s207, s208, s209, s210, s211, s212, s213, s214, s215, s216, s217, s218, s219, s220, s221, s222, s223, s224, s225, s226, s227, s228, s229, s230, s231, s232, s233, s234, s235], []⟩ wx) (hc : ∀ (s10' s11' s12' s13' s14' s15' s16' s17' s18' s19' s43' s44' s45' s46' s47' s48' s49' s50' s51' s52' s53' s54' s55' s56' s57' s58' s59' s60' s61' s62' s63' s64' s65' s66' s67' s68' s69' s70' s71' s72' s73' s74' s75' s76' s77' s78' s79' s80' s81' s82' s83' s84' s85' s86' s87' s88' s89' s90' s91' s92' s93' s94' s95' s96' s97' s98' s99' s100' s101' s102' s103' s104' s105' s106' s107' s108' s109' s110' s111' s112' s113' s114' s115' s116' s117' s118' s119' s120' s121' s122' s123' s124' s125' s126' s127' s128' s129' s130' s131' s132' s133' s134' s135' s136' s137' s138' s139' s140' s141' s142' s143' s144' s145' s146' s147' s148' s149' s150' s151' s152' s153' s154' s155' s156' s157' s158' s159' s160' s161' s162' s163' s164' s165' s166' s167' s168' s169' s170' s171' s172' s173' s174' s175' s176' s177' s178' s179' : Value) (wx : World), OnceAt w G (k + 1) wx → Q (.exit 1) ⟨#[s0, s1, s2, .pointer (some ⟨G, 0, none⟩), .pointer (some ⟨G + 1, 0, none⟩), .pointer (some ⟨G + 1 + 1, 0, none⟩), s6, .pointer (some ⟨bx, 0, none⟩), .int .i64 (me : Int), .int .i64 (it : Int), s10', s11', s12', s13', s14', s15', s16', s17', s18', s19', s20, s21, s22, s23, s24, s25, s26, s27, s28, s29, s30, s31, s32, s33, s34, s35, s36, s37, s38, s39, s40, s41, .int .i64 2, s43', s44', s45', s46', s47', s48', s49', s50', s51', s52', s53', s54', s55', s56', s57', s58', s59', s60', s61', s62', s63', s64', s65', s66', s67', s68', s69', s70', s71', s72', s73', s74', s75', s76', s77', s78', s79', s80', s81', s82', s83', s84', s85', s86', s87', s88', s89', s90', s91', s92', s93', s94', s95', s96', s97', s98', s99', s100', s101', s102', s103', s104', s105', s106', s107', s108', s109', s110', s111', s112', s113', s114', s115', s116', s117', s118', s119', s120', s121', s122', s123', s124', s125', s126', s127', s128', s129', s130', s131', s132', s133', s134', s135', s136', s137', s138', s139', s140', s141', s142', s143', s144', s145', s146', s147', s148', s149', s150', s151', s152', s153', s154', s155', s156', s157', s158', s159', s160', s161', s162', s163', s164', s165', s166', s167', s168', s169', s170', s171', s172', s173', s174', s175', s176', s177', s178', s179', s180, s181, s182, s183, s184, s185, s186, s187, s188, s189, s190, s191, s192, s193, s194, s195, s196, s197, s198, s199, s200, s201, s202, s203, s204, s205, s206, s207, s208, s209, s210, s211, s212, s213, s214, s215, s216, s217, s218, s219, s220, s221, s222, s223, s224, s225, s226, s227, s228, s229, s230, s231, s232, s233, s234, s235], []⟩ wx) : Code.wp Try.prog swCode Q ⟨#[s0, s1, s2, .pointer (some ⟨G, 0, none⟩), .pointer (some ⟨G + 1, 0, none⟩), .pointer (some ⟨G + 1 + 1, 0, none⟩), s6, .pointer (some ⟨bx, 0, none⟩), .int .i64 (me : Int), .int .i64 (it : Int), s10, s11, s12, s13, s14, s15, s16, s17, s18, s19, s20, s21, s22, s23, s24, s25, s26, s27, s28, s29, s30, s31, s32, s33, s34, s35, s36, s37, s38, s39, s40, s41, .int .i64 2, s43, s44, s45, s46, s47, s48, s49, s50, s51, s52, s53, s54, s55, s56, s57, s58, s59, s60, s61, s62, s63, s64, s65, s66, s67, s68, s69, s70, s71, s72, s73, s74, s75, s76, s77, s78, s79, s80, s81, s82, s83, s84, s85, s86, s87, s88, s89, s90, s91, s92, s93, s94, s95, s96, s97, s98, s99, s100, s101, s102, s103, s104, s105, s106, s107, s108, s109, s110, s111, s112, s113, s114, s115, s116, s117, s118, s119, s120, s121, s122, s123, s124, s125, s126, s127, s128, s129, s130, s131, s132, s133, s134, s135, s136, s137, s138, s139, s140, s141, s142, s143, s144, s145, s146, s147, s148, s149, s150, s151, s152, s153, s154, s155, s156, s157, s158, s159, s160, s161, s162, s163, s164, s165, s166, s167, s168, s169, s170, s171, s172, s173, s174, s175, s176, s177, s178, s179, s180, s181, s182, s183, s184, s185, s186, s187, s188, s189, s190, s191, s192, s193, s194, s195, s196, s197, s198, s199, s200, s201, s202, s203, s204, s205, s206, s207, s208, s209, s210, s211, s212, s213, s214, s215, s216, s217, s218, s219, s220, s221, s222, s223, s224, s225, s226, s227, s228, s229, s230, s231, s232, s233, s234, s235], []⟩ V1 := by
  have HT := Lib.hid hT
  have HX := Lib.hid hX
  have HY := Lib.hid hY
  have HIT := Lib.hid hit
  have HBX := Lib.hid hbx
  have HBL := Lib.hid hbl
  have HN := Lib.hid hn
  have HC := Lib.hid hc
  have hitI : (1 : Int) - (me : Int) = (it : Int) := by omega
  have hit2 : it < 2 := by omega
  have hme0 : (0 : Int) ≤ (me : Int) := by omega
  have hme1 : (me : Int) < 2 := by omega
  have hit0 : (0 : Int) ≤ (it : Int) := by omega
  have hit1 : (it : Int) < 2 := by omega
  clear hT hX hY hit hbx hbl hn hc
  conv => arg 2; whnf
  have hGV : G + 1 + 1 < V1.heap.size := HT.out.lt
  have hGV1 : G + 1 < V1.heap.size := by omega
  obtain ⟨_, pu, _, _, yu, _⟩ := HT.out.cells hme
  obtain ⟨_, qu, _, _, zu, _⟩ := (HT.out.swap hme).cells (by omega)
  rw [← HIT.out] at qu zu
  obtain ⟨m0, m1, m2, mz0, mz1, mz2, hmg⟩ := HBX.out.three
  go_upto_region 28 with (fail)
  have b1 : 0 ≤ ii := hi0
  have b2 : ii < x.u.length := hi1
  have b3 : (y.u.length : Int) ≤ 4096 := hi2
  obtain ⟨q, rfl⟩ : ∃ q : Nat, ii = q := ⟨ii.toNat, by omega⟩
  have hql : q < x.u.length := by omega
  have d1 : ¬ ((q : Int) < 0) := by omega
  have d2 : ¬ ((x.u.length : Int) ≤ (q : Int)) := by omega
  have d3 : ¬ (x.u.length ≤ q) := by omega
  have d4 : ¬ (4096 < (y.u.length : Int)) := by omega
  go_quiet (fail)
  clear pu yu qu zu m0 m1 m2 mz0 mz1 mz2 hmg
  rename Nat => n0
  obtain ⟨V2, hV2⟩ : ∃ V2, V2 = V1.drewN n0 := ⟨_, rfl⟩
  have HT2 : Hid (Two V2 G me x y) := by rw [hV2]; exact HT.out.keep fun _ _ => rfl
  have HB2 : Hid (Below w.heap.size w V2) := by rw [hV2]; exact ⟨HBL.out.os, HBL.out.tape, HBL.out.output, HBL.out.size, HBL.out.block⟩
  have HX2 : Hid (Bk V2 bx 49 #[.int .i64 2, .int .i64 who, .int .i64 (q : Int)]) := by rw [hV2]; exact HBX.out
  go_upto_region 29 with (fail)
  rw [← hV2]
  clear hV2
  obtain ⟨_, pu, _, _, yu, _⟩ := HT2.out.cells hme
  obtain ⟨m0, m1, m2, mz0, mz1, mz2, hmg⟩ := HX2.out.three
  obtain ⟨b0, hxB, _, r0, r1, r2, r3⟩ := (Rd.of_own HT2.out.xB).frame hql
  rw [hxB] at pu
  obtain ⟨f, hf⟩ : ∃ f, f = x.u[q] := ⟨_, rfl⟩
  have hfm : f ∈ x.u := by rw [hf]; exact List.getElem_mem _
  rw [← hf] at r0 r1 r2 r3
  have HFM := Lib.hid hfm
  have HXB := Lib.hid hxB
  clear hf hxB hfm
  have hq0 : (0 : Int) ≤ (q : Int) := by omega
  have hq1 : (q : Int) < (x.u.length : Int) := by omega
  go_cut [15] from 120 to 126 (fun v wx => ∃ h, v = .pointer (some ⟨h, 0, none⟩) ∧ V2.heap.size ≤ h ∧ Bk wx h 26 #[.int .i64 f.kind, .int .i64 f.num, .int .i64 f.taken, .string f.body] ∧ Below V2.heap.size V2 wx)
  case first =>
    have HS : Hid (∀ w', Below V2.heap.size V2 w' → (fun w' => Below V2.heap.size V2 w' ∧ w'.cell? ⟨G + 1, me, none⟩ = some (.slice (some b0) x.u.length x.d) ∧ w'.cell? ⟨bx, 2, none⟩ = some (.int .i64 (q : Int)) ∧
        w'.cell? (b0.add (q * 4)) = some (.int .i64 f.kind) ∧ w'.cell? ⟨(b0.add (q * 4)).block, (b0.add (q * 4)).off + 1, none⟩ = some (.int .i64 f.num) ∧ w'.cell? ⟨(b0.add (q * 4)).block, (b0.add (q * 4)).off + 2, none⟩ = some (.int .i64 f.taken) ∧ w'.cell? ⟨(b0.add (q * 4)).block, (b0.add (q * 4)).off + 3, none⟩ = some (.string f.body)) w') := fun w' h => by
      refine ⟨h, ?_, ?_, ?_, ?_, ?_, ?_⟩
      · rw [h.cell (World.block_lt_of_cell? _ _ pu)]; exact pu
      · rw [h.cell (World.block_lt_of_cell? _ _ m2)]; exact m2
      · rw [h.cell (World.block_lt_of_cell? _ _ r0)]; exact r0
      · rw [h.cell (World.block_lt_of_cell? _ _ r1)]; exact r1
      · rw [h.cell (World.block_lt_of_cell? _ _ r2)]; exact r2
      · rw [h.cell (World.block_lt_of_cell? _ _ r3)]; exact r3
    refine wp_region_noPanic ?_
    go_region_held (fun w' => Below V2.heap.size V2 w' ∧ w'.cell? ⟨G + 1, me, none⟩ = some (.slice (some b0) x.u.length x.d) ∧ w'.cell? ⟨bx, 2, none⟩ = some (.int .i64 (q : Int)) ∧
        w'.cell? (b0.add (q * 4)) = some (.int .i64 f.kind) ∧ w'.cell? ⟨(b0.add (q * 4)).block, (b0.add (q * 4)).off + 1, none⟩ = some (.int .i64 f.num) ∧ w'.cell? ⟨(b0.add (q * 4)).block, (b0.add (q * 4)).off + 2, none⟩ = some (.int .i64 f.taken) ∧ w'.cell? ⟨(b0.add (q * 4)).block, (b0.add (q * 4)).off + 3, none⟩ = some (.string f.body))
      (first
        | with_reducible assumption
        | (refine HS.out _ ?_; repeat (first | with_reducible exact Below.refl _ _ | with_reducible refine Below.drew ?_ | (with_reducible refine Below.alloc ?_ ?_ _; rotate_left; (first | exact Nat.le_refl _ | (simp; omega))))))
      (fail)
    all_goals
      refine NoPanic.normal ?_
      go_wp2_with fail
      go_meet
      refine ⟨_, rfl, Nat.le_refl _, ?_, ?_⟩
      · repeat (first | with_reducible exact Bk.new _ _ _ | with_reducible refine Bk.drew ?_)
      · repeat (first | with_reducible exact Below.refl _ _ | with_reducible refine Below.drew ?_ | with_reducible refine Below.alloc ?_ (Nat.le_refl _) _)
  case rest =>
    obtain ⟨h, rfl, hh, hbf, hb3⟩ := hcut
    rename World => V3
    have HT3 : Hid (Two V3 G me x y) := HT2.out.below hb3 (Nat.le_refl _)
    have HB3 : Hid (Below w.heap.size w V3) := HB2.out.trans (hb3.mono HB2.out.size)
    have HX3 : Hid (Bk V3 bx 49 #[.int .i64 2, .int .i64 who, .int .i64 (q : Int)]) := HX2.out.below hb3 HX2.out.lt
    have HBF := Lib.hid hbf
    have hsz3 := hb3.size
    clear pu yu m0 m1 m2 mz0 mz1 mz2 hmg r0 r1 r2 r3 hbf hb3
    obtain ⟨m0, m1, m2, mz0, mz1, mz2, hmg⟩ := HX3.out.three
    obtain ⟨r, hr⟩ : ∃ r, takeS x.s f = r := ⟨_, rfl⟩
    have hstep := take_step HX.out HY.out HFM.out
    rw [hr] at hstep
    have HR := Lib.hid hr
    have HSTEP := Lib.hid hstep
    clear hr hstep
    go_upto_region 32 with (fail)
    go_cut [16, 17, 18, 19] from 148 to 157 (fun p m l e wx => TookAt V3 r p m l e wx)
    case first =>
      have HS : Hid (∀ w', Below V3.heap.size V3 w' → (fun w' => Below V3.heap.size V3 w' ∧ w'.cell? ⟨G, me * 3, none⟩ = some (.slice x.A x.s.sent.length x.c) ∧ w'.cell? ⟨G, me * 3 + 1, none⟩ = some (.int .i64 x.s.taken) ∧ w'.cell? ⟨G, me * 3 + 2, none⟩ = some (.int .i64 x.s.known) ∧
          w'.cell? ⟨h, 0, none⟩ = some (.int .i64 f.kind) ∧ w'.cell? ⟨h, 1, none⟩ = some (.int .i64 f.num) ∧ w'.cell? ⟨h, 2, none⟩ = some (.int .i64 f.taken) ∧ w'.cell? ⟨h, 3, none⟩ = some (.string f.body)) w') := fun w' hw => by
        have a := ((HT3.out.below hw (Nat.le_refl _)).cells hme).1
        have b := (HBF.out.below hw HBF.out.lt).four'
        exact ⟨hw, a.1, a.2.1, a.2.2, b.1, b.2.1, b.2.2.1, b.2.2.2⟩
      have HS2 : Hid (∀ (W : World), Below V3.heap.size V3 W → _) := fun W hB => take_two x.A x.s.sent.length x.c x.s f W (by have := (good_parts HX.out.good).1; unfold maxLen; omega) ((Rd.of_own HT3.out.xA).below hB |>.mono hB.size) r HR.out
      refine wp_region_noPanic ?_
      go_region_held (fun w' => Below V3.heap.size V3 w' ∧ w'.cell? ⟨G, me * 3, none⟩ = some (.slice x.A x.s.sent.length x.c) ∧ w'.cell? ⟨G, me * 3 + 1, none⟩ = some (.int .i64 x.s.taken) ∧ w'.cell? ⟨G, me * 3 + 2, none⟩ = some (.int .i64 x.s.known) ∧
          w'.cell? ⟨h, 0, none⟩ = some (.int .i64 f.kind) ∧ w'.cell? ⟨h, 1, none⟩ = some (.int .i64 f.num) ∧ w'.cell? ⟨h, 2, none⟩ = some (.int .i64 f.taken) ∧ w'.cell? ⟨h, 3, none⟩ = some (.string f.body))
        (first
          | with_reducible assumption
          | (refine HS.out _ ?_; repeat (first | with_reducible exact HP.out | with_reducible exact Below.refl _ _ | with_reducible refine Below.drew ?_ | (with_reducible refine Below.alloc ?_ ?_ _; rotate_left; (first | exact Nat.le_refl _ | exact hsz2 | (simp; omega))) | (with_reducible refine Below.setCell ?_ ?_ _; rotate_left; (first | exact Nat.le_refl _ | (simp; omega))))))
        (first
          | (go_at_call 10; obtain ⟨hB, -⟩ := ‹Below V3.heap.size V3 _ ∧ _›; refine (HS2.out _ hB).mono ?_; rintro e w2 ⟨A', c', X, d, rfl, ⟨Bz, hBz, hown, hownx⟩, hb2⟩; have HP : Hid (Below V3.heap.size V3 w2) := hB.trans (hb2.mono hB.size); have hsz2 := HP.out.size; have h5 := HS.out _ HP.out; have hc2 := fun p hp => hb2.cell (p := p) hp; have hf2 := fun p hp => hb2.frozen (p := p) hp; have hsz3' := hb2.size; simp at hsz3'; simp at hBz; have HBZ := Lib.hid hBz; clear hBz; (try (have gg0 : V3.heap.size < w2.heap.size := (by omega))); have HOWN := Lib.hid hown; have HOWNX := Lib.hid hownx; have HBB := Lib.hid hb2; clear hown hownx hb2 hB))
      all_goals
        refine NoPanic.normal ?_
        go_wp2_with fail
        go_meet
        have hBz := HBZ.out
        have hVz : V3.heap.size ≤ Bz := by omega
        first
          | with_reducible exact took1 HOWN.out HOWNX.out hVz HP.out
          | with_reducible refine took2 HOWN.out HOWNX.out hVz HP.out ?_ ?_ ?_
        all_goals first
          | omega
          | ((with_reducible refine Bk.below ?_ HBB.out ?_)
             · repeat (first
                | with_reducible exact Bk.new _ _ _
                | with_reducible refine Bk.drew ?_)
             · simp; try omega)
    case rest =>
      obtain ⟨g, A', c', X, d, rfl, rfl, rfl, rfl, hg, ⟨t0, t1, t2⟩, hown, hownx, hb4⟩ := hcut
      rename World => V4
      obtain ⟨s', m', l', e'⟩ := r
      have hstep := HSTEP.out
      dsimp only at hstep t0 t1 t2 hown hownx ⊢
      obtain ⟨rfl, hl64, hcase⟩ := hstep
      have HT4 : Hid (Two V4 G me x y) := HT3.out.below hb4 (Nat.le_refl _)
      have HB4 : Hid (Below w.heap.size w V4) := HB3.out.trans (hb4.mono HB3.out.size)
      have hsz4 := hb4.size
      obtain ⟨⟨q0, q1, q2⟩, _, _, ⟨z0, z1, z2⟩, _, _⟩ := HT4.out.cells hme
      have hG4 : G + 1 + 1 < V4.heap.size := HT4.out.lt
      obtain ⟨W5, hW5⟩ : ∃ W5, W5 = (((V4.setCell ⟨G, me * 3, none⟩ (.slice A' s'.sent.length c')).setCell ⟨G, me * 3 + 1, none⟩ (.int .i64 s'.taken)).setCell ⟨G, me * 3 + 2, none⟩ (.int .i64 s'.known)) := ⟨_, rfl⟩
      have HT5 : Hid (Two W5 G me ⟨A', c', s', x.B, x.d, x.u, x.C, x.m, x.g⟩ y) := by
        rw [hW5]
        exact HT4.out.putE hme hown (by have := HT3.out.lt; omega) (own_apart HT3.out.xC hown (Nat.le_refl _)) (own_apart HT3.out.yC hown (Nat.le_refl _))
      have HB5 : Hid (Below w.heap.size w W5) := by
        rw [hW5]
        refine Below.setCell (Below.setCell (Below.setCell HB4.out ?_ _) ?_ _) ?_ _ <;> exact hz1
      have HX5 : Hid (W5.ownsRow V3.heap.size 26 4 (.slice X l'.length d) l'.length (frs l')) := by
        have hlt : G < V3.heap.size := by have := HT3.out.lt; omega
        rw [hW5]
        exact ownsRow_setCell_below (ownsRow_setCell_below (ownsRow_setCell_below hownx (a := ⟨G, me * 3, none⟩) hlt _) (a := ⟨G, me * 3 + 1, none⟩) hlt _) (a := ⟨G, me * 3 + 2, none⟩) hlt _
      have HCASE := Lib.hid hcase
      clear hown hownx hb4 hcase m0 m1 m2 mz0 mz1 mz2 hmg
      go_upto_region 36 with (fail)
      rw [← hW5]
      clear hW5 q0 q1 q2 z0 z1 z2 t0 t1 t2
      have hul : y.u.length ≤ 20000 := by omega
      have hG5 : G + 1 + 1 < W5.heap.size := HT5.out.lt
      obtain ⟨_, qu, _, _, zu, _⟩ := (HT5.out.swap hme).cells (by omega)
      rw [← HIT.out] at qu zu
      obtain ⟨i0, hi, hz0, hzs, hz2⟩ := info_parts info26
      go_upto_region 37 with (at_builtin; go_must (refine wpList_append_rd _ rfl (.tmp 166) (.tmp 167) _ rfl (G + 1 + 1 + 1) 26 i0 _ 4 40 Try.underlying28 hi hz0 hzs hz2 rfl (by omega) _ y.u.length (frs y.u) rfl HT5.out.yB W5.heap.size X l'.length d (frs l') rfl (Rd.of_own HX5.out) (frs_one l') (by unfold maxLen; omega) (by omega) (by omega) ?_); intro B2 d2 w6 hc6 hm6 hown6 hg6 hat6; obtain ⟨qu6, zu6, su6⟩ := HT5.out.cellU hme HIT.out hg6; have HGR := Lib.hid hg6; have HOWN6 := Lib.hid hown6; have HAT := Lib.hid hat6; clear hg6 hown6 hat6)
      obtain ⟨W7, hW7⟩ : ∃ W7, W7 = w6.setCell ⟨G + 1, it, none⟩ (.slice B2 (y.u.length + l'.length) d2) := ⟨_, rfl⟩
      have HT7 : Hid (Two W7 G me ⟨A', c', s', x.B, x.d, x.u, x.C, x.m, x.g⟩ ⟨y.A, y.c, y.s, B2, d2, y.u ++ l', y.C, y.m, y.g⟩) := by
        rw [hW7]
        exact HT5.out.addU hme HIT.out (l := l') HGR.out HOWN6.out rfl (HAT.out.imp id fun e p hp => by subst hp; exact Nat.le_of_eq (Option.some.inj e).symm)
      have HB7 : Hid (Below w.heap.size w W7) := by
        rw [hW7]
        exact Below.setCell (HB5.out.grown HGR.out HB5.out.size fun k hk => by have := (HT5.out.yB.lt k hk).1; omega) (by show w.heap.size ≤ G + 1; omega) _
      rw [← hW7]
      clear hW7 qu6 zu6 su6 qu zu
      rcases HCASE.out with ⟨hm, hA, hB⟩ | ⟨hm, hA, hB⟩
      · subst hm
        have HA := Lib.hid hA
        have HBh := Lib.hid hB
        clear hA hB
        unfold noBytes
        go_wp2
        apply HN.out
        exact once_back hme HT7.out HA.out HBh.out (by dsimp only; omega) (by simp; omega) HB7.out
      · have HA := Lib.hid hA
        have HBh := Lib.hid hB
        have hmt : ¬ m'.toList = [] := fun e => by have := (empty_iff m').1 e; omega
        have hmt1 : (m'.toList == []) = false := by simpa using hmt
        have hmt2 : (m'.toList != []) = true := by simpa using hmt
        clear hA hB
        obtain ⟨_, _, pc, _, _, yc⟩ := HT7.out.cells hme
        have hG7 : G + 1 + 1 < W7.heap.size := HT7.out.lt
        have hgl : x.g.length ≤ 256 := by
          have h1 := HX.out.pre.length_le
          have h2 := (good_parts HY.out.good).1
          omega
        obtain ⟨i9, hi9, hz09, hz19, hz29⟩ := info_parts info9
        go_wp2_with (at_builtin; go_must (refine wpList_append_rd _ rfl (.tmp 175) (.tmp 177) _ rfl (G + 1 + 1 + 1) 9 i9 _ 1 16 Try.underlying22 hi9 hz09 hz19 hz29 rfl (by omega) _ x.g.length (x.g.map Value.string) rfl (HT7.out.xC.alloc _) (W7.heap.size + 1) (some ⟨W7.heap.size, 0, none⟩) 1 1 [.string m'] rfl (rd_text (Bk.new' _ _ _ rfl)) (by simp [Value.oneCell']) (by unfold maxLen; omega) (by omega) (by simp; omega) ?_); intro C2 e2 w8 hc8 hm8 hown8 hg8 hat8; have hgr8 := grown_alloc' hg8; obtain ⟨pu8, yu8, su8⟩ := HT7.out.cellC hme hgr8; have HGR8 := Lib.hid hgr8; have HOWN8 := Lib.hid hown8; have HAT8 := Lib.hid hat8; clear hg8 hgr8 hown8 hat8)
        apply HN.out
        refine once_back hme (HT7.out.addC hme (b := m') HGR8.out HOWN8.out rfl (HAT8.out.imp id fun e p hp => by subst hp; have h := Option.some.inj e; simp at h; omega)) HA.out HBh.out (by dsimp only; omega) (by simp; omega) ?_
        exact Below.setCell (HB7.out.grown HGR8.out HB7.out.size fun k hk => by have := (HT7.out.xC.lt k hk).1; omega) (by show w.heap.size ≤ G + 1 + 1; omega) _

end Go.Proofs.Ytkklghdmnkdofaa
