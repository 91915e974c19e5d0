/- SessOnce: the tick. By gen_once.py. -/
import Derived.Test.YtkklghdmnkdofaaO2
import Derived.Deep.DeepCutAuto
import Derived.Deep.CutBlock
namespace Go.Proofs.Ytkklghdmnkdofaa
open Go.RowKit

set_option maxRecDepth 1000000 in
set_option maxHeartbeats 8000000 in
theorem sw1 (w : World) (G k bx me it : Nat) (who ii : Int) (x y : ED) (V1 : World) (Q : Exit → Act → World → Prop) (s0 s1 s2 s6 s10 s11 s12 s13 s14 s15 s16 s17 s18 s19 s20 s21 s22 s23 s24 s25 s26 s27 s28 s29 s30 s31 s32 s33 s34 s35 s36 s37 s38 s39 s40 s41 s43 s44 s45 s46 s47 s48 s49 s50 s51 s52 s53 s54 s55 s56 s57 s58 s59 s60 s61 s62 s63 s64 s65 s66 s67 s68 s69 s70 s71 s72 s73 s74 s75 s76 s77 s78 s79 s80 s81 s82 s83 s84 s85 s86 s87 s88 s89 s90 s91 s92 s93 s94 s95 s96 s97 s98 s99 s100 s101 s102 s103 s104 s105 s106 s107 s108 s109 s110 s111 s112 s113 s114 s115 s116 s117 s118 s119 s120 s121 s122 s123 s124 s125 s126 s127 s128 s129 s130 s131 s132 s133 s134 s135 s136 s137 s138 s139 s140 s141 s142 s143 s144 s145 s146 s147 s148 s149 s150 s151 s152 s153 s154 s155 s156 s157 s158 s159 s160 s161 s162 s163 s164 s165 s166 s167 s168 s169 s170 s171 s172 s173 s174 s175 s176 s177 s178 s179 s180 s181 s182 s183 s184 s185 s186 s187 s188 s189 s190 s191 s192 s193 s194 s195 s196 s197 s198 s199 s200 s201 s202 s203 s204 s205 s206 s207 s208 s209 s210 s211 s212 s213 s214 s215 s216 s217 s218 s219 s220 s221 s222 s223 s224 s225 s226 s227 s228 s229 s230 s231 s232 s233 s234 s235 : Value) (hz1 : w.heap.size ≤ G) (hme : me < 2) (hit : it = 1 - me) (hT : Two V1 G me x y) (hX : Half x.s x.u x.g y.s y.g) (hY : Half y.s y.u y.g x.s x.g) (hux : x.u.length ≤ 64 * k) (huy : y.u.length ≤ 64 * k) (hk : k < 256) (hbx : Bk V1 bx 49 #[.int .i64 1, .int .i64 who, .int .i64 ii]) (hbl : Below w.heap.size w V1) (hn : ∀ (s10' s11' s12' s13' s14' s15' s16' s17' s18' s19' s43' s44' s45' s46' s47' s48' s49' s50' s51' s52' s53' s54' s55' s56' s57' s58' s59' s60' s61' s62' s63' s64' s65' s66' s67' s68' s69' s70' s71' s72' s73' s74' s75' s76' s77' s78' s79' s80' s81' s82' s83' s84' s85' s86' s87' s88' s89' s90' s91' s92' s93' s94' s95' s96' s97' s98' s99' s100' s101' s102' s103' s104' s105' s106' s107' s108' s109' s110' s111' s112' s113' s114' s115' s116' s117' s118' s119' s120' s121' s122' s123' s124' s125' s126' s127' s128' s129' s130' s131' s132' s133' s134' s135' s136' s137' s138' s139' s140' s141' s142' s143' s144' s145' s146' s147' s148' s149' s150' s151' s152' s153' s154' s155' s156' s157' s158' s159' s160' s161' s162' s163' s164' s165' s166' s167' s168' s169' s170' s171' s172' s173' s174' s175' s176' s177' s178' s179' : Value) (wx : World), OnceAt w G (k + 1) wx → Q .normal ⟨#[s0, s1, s2, .pointer (some ⟨G, 0, none⟩), .pointer (some ⟨G + 1, 0, none⟩), .pointer (some ⟨G + 1 + 1, 0, none⟩), s6, .pointer (some ⟨bx, 0, none⟩), .int .i64 (me : Int), .int .i64 (it : Int), s10', s11', s12', s13', s14', s15', s16', s17', s18', s19', s20, s21, s22, s23, s24, s25, s26, s27, s28, s29, s30, s31, s32, s33, s34, s35, s36, s37, s38, s39, s40, s41, .int .i64 1, s43', s44', s45', s46', s47', s48', s49', s50', s51', s52', s53', s54', s55', s56', s57', s58', s59', s60', s61', s62', s63', s64', s65', s66', s67', s68', s69', s70', s71', s72', s73', s74', s75', s76', s77', s78', s79', s80', s81', s82', s83', s84', s85', s86', s87', s88', s89', s90', s91', s92', s93', s94', s95', s96', s97', s98', s99', s100', s101', s102', s103', s104', s105', s106', s107', s108', s109', s110', s111', s112', s113', s114', s115', s116', s117', s118', s119', s120', s121', s122', s123', s124', s125', s126', s127', s128', s129', s130', s131', s132', s133', s134', s135', s136', s137', s138', s139', s140', s141', s142', s143', s144', s145', s146', s147', s148', s149', s150', s151', s152', s153', s154', s155', s156', s157', s158', s159', s160', s161', s162', s163', s164', s165', s166', s167', s168', s169', s170', s171', s172', s173', s174', s175', s176', s177', s178', s179', s180, s181, s182, s183, s184, s185, s186, s187, s188, s189, s190, s191, s192, s193, s194, s195, s196, s197, s198, s199, s200, s201, s202, s203, s204, s205, s206, s207, s208, s209, s210, s211, s212, s213, s214, s215, s216, s217, s218, s219, s220, s221, s222, s223, s224, s225, s226, s227, s228, s229, s230, s231, s232, s233, s234, s235], []⟩ wx) (hc : ∀ (s10' s11' s12' s13' s14' s15' s16' s17' s18' s19' s43' s44' s45' s46' s47' s48' s49' s50' s51' s52' s53' s54' s55' s56' s57' s58' s59' s60' s61' s62' s63' s64' s65' s66' s67' s68' s69' s70' s71' s72' s73' s74' s75' s76' s77' s78' s79' s80' s81' s82' s83' s84' s85' s86' s87' s88' s89' s90' s91' s92' s93' s94' s95' s96' s97' s98' s99' s100' s101' s102' s103' s104' s105' s106' s107' s108' s109' s110' s111' s112' s113' s114' s115' s116' s117' s118' s119' s120' s121' s122' s123' s124' s125' s126' s127' s128' s129' s130' s131' s132' s133' s134' s135' s136' s137' s138' s139' s140' s141' s142' s143' s144' s145' s146' s147' s148' s149' s150' s151' s152' s153' s154' s155' s156' s157' s158' s159' s160' s161' s162' s163' s164' s165' s166' s167' s168' s169' s170' s171' s172' s173' s174' s175' s176' s177' s178' s179' : Value) (wx : World), OnceAt w G (k + 1) wx → Q (.exit 1) ⟨#[s0, s1, s2, .pointer (some ⟨G, 0, none⟩), .pointer (some ⟨G + 1, 0, none⟩), .pointer (some ⟨G + 1 + 1, 0, none⟩), s6, .pointer (some ⟨bx, 0, none⟩), .int .i64 (me : Int), .int .i64 (it : Int), s10', s11', s12', s13', s14', s15', s16', s17', s18', s19', s20, s21, s22, s23, s24, s25, s26, s27, s28, s29, s30, s31, s32, s33, s34, s35, s36, s37, s38, s39, s40, s41, .int .i64 1, s43', s44', s45', s46', s47', s48', s49', s50', s51', s52', s53', s54', s55', s56', s57', s58', s59', s60', s61', s62', s63', s64', s65', s66', s67', s68', s69', s70', s71', s72', s73', s74', s75', s76', s77', s78', s79', s80', s81', s82', s83', s84', s85', s86', s87', s88', s89', s90', s91', s92', s93', s94', s95', s96', s97', s98', s99', s100', s101', s102', s103', s104', s105', s106', s107', s108', s109', s110', s111', s112', s113', s114', s115', s116', s117', s118', s119', s120', s121', s122', s123', s124', s125', s126', s127', s128', s129', s130', s131', s132', s133', s134', s135', s136', s137', s138', s139', s140', s141', s142', s143', s144', s145', s146', s147', s148', s149', s150', s151', s152', s153', s154', s155', s156', s157', s158', s159', s160', s161', s162', s163', s164', s165', s166', s167', s168', s169', s170', s171', s172', s173', s174', s175', s176', s177', s178', s179', s180, s181, s182, s183, s184, s185, s186, s187, s188, s189, s190, s191, s192, s193, s194, s195, s196, s197, s198, s199, s200, s201, s202, s203, s204, s205, s206, s207, s208, s209, s210, s211, s212, s213, s214, s215, s216, s217, s218, s219, s220, s221, s222, s223, s224, s225, s226, s227, s228, s229, s230, s231, s232, s233, s234, s235], []⟩ wx) : Code.wp Try.prog swCode Q ⟨#[s0, s1, s2, .pointer (some ⟨G, 0, none⟩), .pointer (some ⟨G + 1, 0, none⟩), .pointer (some ⟨G + 1 + 1, 0, none⟩), s6, .pointer (some ⟨bx, 0, none⟩), .int .i64 (me : Int), .int .i64 (it : Int), s10, s11, s12, s13, s14, s15, s16, s17, s18, s19, s20, s21, s22, s23, s24, s25, s26, s27, s28, s29, s30, s31, s32, s33, s34, s35, s36, s37, s38, s39, s40, s41, .int .i64 1, s43, s44, s45, s46, s47, s48, s49, s50, s51, s52, s53, s54, s55, s56, s57, s58, s59, s60, s61, s62, s63, s64, s65, s66, s67, s68, s69, s70, s71, s72, s73, s74, s75, s76, s77, s78, s79, s80, s81, s82, s83, s84, s85, s86, s87, s88, s89, s90, s91, s92, s93, s94, s95, s96, s97, s98, s99, s100, s101, s102, s103, s104, s105, s106, s107, s108, s109, s110, s111, s112, s113, s114, s115, s116, s117, s118, s119, s120, s121, s122, s123, s124, s125, s126, s127, s128, s129, s130, s131, s132, s133, s134, s135, s136, s137, s138, s139, s140, s141, s142, s143, s144, s145, s146, s147, s148, s149, s150, s151, s152, s153, s154, s155, s156, s157, s158, s159, s160, s161, s162, s163, s164, s165, s166, s167, s168, s169, s170, s171, s172, s173, s174, s175, s176, s177, s178, s179, s180, s181, s182, s183, s184, s185, s186, s187, s188, s189, s190, s191, s192, s193, s194, s195, s196, s197, s198, s199, s200, s201, s202, s203, s204, s205, s206, s207, s208, s209, s210, s211, s212, s213, s214, s215, s216, s217, s218, s219, s220, s221, s222, s223, s224, s225, s226, s227, s228, s229, s230, s231, s232, s233, s234, s235], []⟩ V1 := by
  have HT := Lib.hid hT
  have HX := Lib.hid hX
  have HY := Lib.hid hY
  have HIT := Lib.hid hit
  have HBX := Lib.hid hbx
  have HBL := Lib.hid hbl
  have HN := Lib.hid hn
  have HC := Lib.hid hc
  have hitI : (1 : Int) - (me : Int) = (it : Int) := by omega
  have hit2 : it < 2 := by omega
  have hme0 : (0 : Int) ≤ (me : Int) := by omega
  have hme1 : (me : Int) < 2 := by omega
  have hit0 : (0 : Int) ≤ (it : Int) := by omega
  have hit1 : (it : Int) < 2 := by omega
  clear hT hX hY hit hbx hbl hn hc
  conv => arg 2; whnf
  have hGV : G + 1 + 1 < V1.heap.size := HT.out.lt
  obtain ⟨⟨q0, q1, q2⟩, _, _, ⟨z0, z1, z2⟩, _, _⟩ := HT.out.cells hme
  have hls := (good_parts HX.out.good).1
  obtain ⟨m0, m1, m2, mz0, mz1, mz2, hmg⟩ := HBX.out.three
  go_wp2_with fail
  refine (tick_yes x.A x.s.sent.length x.c x.s V1 (by unfold maxLen; omega) (Rd.of_own HT.out.xA) HX.out.good).mono ?_
  rintro e w3 ⟨rfl, hb3⟩
  clear q0 q1 q2 z0 z1 z2 m0 m1 m2 mz0 mz1 mz2 hmg
  obtain ⟨W3, hW3⟩ : ∃ W3, W3 = w3.alloc (.cells #[.int .i64 3, .int .i64 (x.s.sent.length : Int), .int .i64 x.s.taken, .string noBytes] 26) := ⟨_, rfl⟩
  have HT3 : Hid (Two W3 G me x y) := by rw [hW3]; exact (HT.out.below hb3 (Nat.le_refl _)).alloc _
  have HB3 : Hid (Below w.heap.size w W3) := by
    rw [hW3]; exact (HBL.out.trans (hb3.mono HBL.out.size)).alloc (Nat.le_trans HBL.out.size hb3.size) _
  have hbb : Bk W3 w3.heap.size 26 #[.int .i64 3, .int .i64 (x.s.sent.length : Int), .int .i64 x.s.taken, .string noBytes] := by rw [hW3]; exact Bk.new _ _ _
  obtain ⟨h0, h1, h2, h3, _, _, _, _, hh3⟩ := hbb.four
  have HSTEP := Lib.hid (tick_step HX.out HY.out)
  clear hb3 hbb
  go_upto_region 25 with (fail)
  rw [← hW3]
  clear hW3
  have hul : y.u.length ≤ 20000 := by omega
  have hG3 : G + 1 + 1 < W3.heap.size := HT3.out.lt
  have hG31 : G + 1 < W3.heap.size := by omega
  obtain ⟨_, qu, _, _, zu, _⟩ := (HT3.out.swap hme).cells (by omega)
  rw [← HIT.out] at qu zu
  obtain ⟨i0, hi, hz0, hzs, hz2⟩ := info_parts info26
  refine wp_region_noPanic ?_
  go_region_law ((refine step_append_rd _ (by rfl) (.tmp 93) (.tmp 95) _ (by rfl) (G + 1 + 1 + 1) 26 i0 _ 4 40 Try.underlying28 hi hz0 hzs hz2 rfl (by omega) _ y.u.length (frs y.u) (by rfl) (HT3.out.yB.alloc _) (W3.heap.size + 1) _ 1 1 (⟨3, x.s.sent.length, x.s.taken, noBytes⟩ : Fr).cells (by rfl) (rd_frame (⟨3, x.s.sent.length, x.s.taken, noBytes⟩ : Fr) (Bk.new' _ _ _ rfl)) (cells_one (⟨3, x.s.sent.length, x.s.taken, noBytes⟩ : Fr)) (by unfold maxLen; omega) (by omega) (by simp; omega) ?_; intro B2 d2 w4 hc4 hm4 hown4 hg4 hat4; have hgr4 : W3.grownBy w4 (Value.slice y.B y.u.length y.d).ownBlock := (by first | exact grown_alloc' hg4 | exact grown_alloc' (grown_drew' hg4)); obtain ⟨qu4, zu4, su4⟩ := HT3.out.cellU hme HIT.out hgr4; have HGR := Lib.hid hgr4; have HOWN4 := Lib.hid hown4; have HAT := Lib.hid hat4; clear hgr4 hown4 hat4 hg4))
  all_goals
    refine NoPanic.normal ?_
    try go_wp2_with fail
    apply HN.out
    refine once_back hme (HT3.out.addU hme HIT.out (l := [(⟨3, x.s.sent.length, x.s.taken, noBytes⟩ : Fr)]) HGR.out (by simpa [frs] using HOWN4.out) (by simp) (HAT.out.imp id fun e p hp => by subst hp; have := Option.some.inj e; simp at this; omega)) HX.out HSTEP.out (by first | omega | (dsimp only; omega)) (by simp; omega) ?_
    exact Below.setCell (HB3.out.grown HGR.out HB3.out.size fun k hk => by have := (HT3.out.yB.lt k hk).1; omega) (by show w.heap.size ≤ G + 1; omega) _

end Go.Proofs.Ytkklghdmnkdofaa
