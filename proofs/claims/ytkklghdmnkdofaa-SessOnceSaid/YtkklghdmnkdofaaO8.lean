/- SessOnce: no such frame (3). By gen_once.py. -/
import Derived.Test.YtkklghdmnkdofaaQ0
import Derived.Deep.DeepCutAuto
import Derived.Deep.CutBlock
import Derived.Deep.CutRange
namespace Go.Proofs.Ytkklghdmnkdofaa
open Go.RowKit

set_option maxRecDepth 1000000 in
set_option maxHeartbeats 8000000 in
theorem swBad3 (w : World) (G k bx me it : Nat) (who ii : Int) (x y : ED) (V1 : World) (Q : Exit → Act → World → Prop) (s0 s1 s2 s6 s10 s11 s12 s13 s14 s15 s16 s17 s18 s19 s20 s21 s22 s23 s24 s25 s26 s27 s28 s29 s30 s31 s32 s33 s34 s35 s36 s37 s38 s39 s40 s41 s43 s44 s45 s46 s47 s48 s49 s50 s51 s52 s53 s54 s55 s56 s57 s58 s59 s60 s61 s62 s63 s64 s65 s66 s67 s68 s69 s70 s71 s72 s73 s74 s75 s76 s77 s78 s79 s80 s81 s82 s83 s84 s85 s86 s87 s88 s89 s90 s91 s92 s93 s94 s95 s96 s97 s98 s99 s100 s101 s102 s103 s104 s105 s106 s107 s108 s109 s110 s111 s112 s113 s114 s115 s116 s117 s118 s119 s120 s121 s122 s123 s124 s125 s126 s127 s128 s129 s130 s131 s132 s133 s134 s135 s136 s137 s138 s139 s140 s141 s142 s143 s144 s145 s146 s147 s148 s149 s150 s151 s152 s153 s154 s155 s156 s157 s158 s159 s160 s161 s162 s163 s164 s165 s166 s167 s168 s169 s170 s171 s172 s173 s174 s175 s176 s177 s178 s179 s180 s181 s182 s183 s184 s185 s186 s187 s188 s189 s190 s191 s192 s193 s194 s195 s196 s197 s198 s199 s200 s201 s202 s203 s204 s205 s206 s207 s208 s209 s210 s211 s212 s213 s214 s215 s216 s217 s218 s219 s220 s221 s222 s223 s224 s225 s226 s227 s228 s229 s230 s231 s232 s233 s234 s235 : Value) (hme : me < 2) (hit : it = 1 - me) (hT : Two V1 G me x y) (hX : Half x.s x.u x.g y.s y.g) (hY : Half y.s y.u y.g x.s x.g) (hux : x.u.length ≤ 64 * k) (huy : y.u.length ≤ 64 * k) (hbx : Bk V1 bx 49 #[.int .i64 3, .int .i64 who, .int .i64 ii]) (hbl : Below w.heap.size w V1) (hbad : ii < 0 ∨ (x.u.length : Int) ≤ ii ∨ 4096 < (y.u.length : Int)) (hn : ∀ (s10' s11' s12' s13' s14' s15' s16' s17' s18' s19' s43' s44' s45' s46' s47' s48' s49' s50' s51' s52' s53' s54' s55' s56' s57' s58' s59' s60' s61' s62' s63' s64' s65' s66' s67' s68' s69' s70' s71' s72' s73' s74' s75' s76' s77' s78' s79' s80' s81' s82' s83' s84' s85' s86' s87' s88' s89' s90' s91' s92' s93' s94' s95' s96' s97' s98' s99' s100' s101' s102' s103' s104' s105' s106' s107' s108' s109' s110' s111' s112' s113' s114' s115' s116' s117' s118' s119' s120' s121' s122' s123' s124' s125' s126' s127' s128' s129' s130' s131' s132' s133' s134' s135' s136' s137' s138' s139' s140' s141' s142' s143' s144' s145' s146' s147' s148' s149' s150' s151' s152' s153' s154' s155' s156' s157' s158' s159' s160' s161' s162' s163' s164' s165' s166' s167' s168' s169' s170' s171' s172' s173' s174' s175' s176' s177' s178' s179' : Value) (wx : World), OnceAt w G (k + 1) wx → Q .normal ⟨#[s0, s1, s2, .pointer (some ⟨G, 0, none⟩), .pointer (some ⟨G + 1, 0, none⟩), .pointer (some ⟨G + 1 + 1, 0, none⟩), s6, .pointer (some ⟨bx, 0, none⟩), .int .i64 (me : Int), .int .i64 (it : Int), s10', s11', s12', s13', s14', s15', s16', s17', s18', s19', s20, s21, s22, s23, s24, s25, s26, s27, s28, s29, s30, s31, s32, s33, s34, s35, s36, s37, s38, s39, s40, s41, .int .i64 3, s43', s44', s45', s46', s47', s48', s49', s50', s51', s52', s53', s54', s55', s56', s57', s58', s59', s60', s61', s62', s63', s64', s65', s66', s67', s68', s69', s70', s71', s72', s73', s74', s75', s76', s77', s78', s79', s80', s81', s82', s83', s84', s85', s86', s87', s88', s89', s90', s91', s92', s93', s94', s95', s96', s97', s98', s99', s100', s101', s102', s103', s104', s105', s106', s107', s108', s109', s110', s111', s112', s113', s114', s115', s116', s117', s118', s119', s120', s121', s122', s123', s124', s125', s126', s127', s128', s129', s130', s131', s132', s133', s134', s135', s136', s137', s138', s139', s140', s141', s142', s143', s144', s145', s146', s147', s148', s149', s150', s151', s152', s153', s154', s155', s156', s157', s158', s159', s160', s161', s162', s163', s164', s165', s166', s167', s168', s169', s170', s171', s172', s173', s174', s175', s176', s177', s178', s179', s180, s181, s182, s183, s184, s185, s186, s187, s188, s189, s190, s191, s192, s193, s194, s195, s196, s197, s198, s199, s200, s201, s202, s203, s204, s205, s206, s207, s208, s209, s210, s211, s212, s213, s214, s215, s216, s217, s218, s219, s220, s221, s222, s223, s224, s225, s226, s227, s228, s229, s230, s231, s232, s233, s234, s235], []⟩ wx) (hc : ∀ (s10' s11' s12' s13' s14' s15' s16' s17' s18' s19' s43' s44' s45' s46' s47' s48' s49' s50' s51' s52' s53' s54' s55' s56' s57' s58' s59' s60' s61' s62' s63' s64' s65' s66' s67' s68' s69' s70' s71' s72' s73' s74' s75' s76' s77' s78' s79' s80' s81' s82' s83' s84' s85' s86' s87' s88' s89' s90' s91' s92' s93' s94' s95' s96' s97' s98' s99' s100' s101' s102' s103' s104' s105' s106' s107' s108' s109' s110' s111' s112' s113' s114' s115' s116' s117' s118' s119' s120' s121' s122' s123' s124' s125' s126' s127' s128' s129' s130' s131' s132' s133' s134' s135' s136' s137' s138' s139' s140' s141' s142' s143' s144' s145' s146' s147' s148' s149' s150' s151' s152' s153' s154' s155' s156' s157' s158' s159' s160' s161' s162' s163' s164' s165' s166' s167' s168' s169' s170' s171' s172' s173' s174' s175' s176' s177' s178' s179' : Value) (wx : World), OnceAt w G (k + 1) wx → Q (.exit 1) ⟨#[s0, s1, s2, .pointer (some ⟨G, 0, none⟩), .pointer (some ⟨G + 1, 0, none⟩), .pointer (some ⟨G + 1 + 1, 0, none⟩), s6, .pointer (some ⟨bx, 0, none⟩), .int .i64 (me : Int), .int .i64 (it : Int), s10', s11', s12', s13', s14', s15', s16', s17', s18', s19', s20, s21, s22, s23, s24, s25, s26, s27, s28, s29, s30, s31, s32, s33, s34, s35, s36, s37, s38, s39, s40, s41, .int .i64 3, s43', s44', s45', s46', s47', s48', s49', s50', s51', s52', s53', s54', s55', s56', s57', s58', s59', s60', s61', s62', s63', s64', s65', s66', s67', s68', s69', s70', s71', s72', s73', s74', s75', s76', s77', s78', s79', s80', s81', s82', s83', s84', s85', s86', s87', s88', s89', s90', s91', s92', s93', s94', s95', s96', s97', s98', s99', s100', s101', s102', s103', s104', s105', s106', s107', s108', s109', s110', s111', s112', s113', s114', s115', s116', s117', s118', s119', s120', s121', s122', s123', s124', s125', s126', s127', s128', s129', s130', s131', s132', s133', s134', s135', s136', s137', s138', s139', s140', s141', s142', s143', s144', s145', s146', s147', s148', s149', s150', s151', s152', s153', s154', s155', s156', s157', s158', s159', s160', s161', s162', s163', s164', s165', s166', s167', s168', s169', s170', s171', s172', s173', s174', s175', s176', s177', s178', s179', s180, s181, s182, s183, s184, s185, s186, s187, s188, s189, s190, s191, s192, s193, s194, s195, s196, s197, s198, s199, s200, s201, s202, s203, s204, s205, s206, s207, s208, s209, s210, s211, s212, s213, s214, s215, s216, s217, s218, s219, s220, s221, s222, s223, s224, s225, s226, s227, s228, s229, s230, s231, s232, s233, s234, s235], []⟩ wx) : Code.wp Try.prog swCode Q ⟨#[s0, s1, s2, .pointer (some ⟨G, 0, none⟩), .pointer (some ⟨G + 1, 0, none⟩), .pointer (some ⟨G + 1 + 1, 0, none⟩), s6, .pointer (some ⟨bx, 0, none⟩), .int .i64 (me : Int), .int .i64 (it : Int), s10, s11, s12, s13, s14, s15, s16, s17, s18, s19, s20, s21, s22, s23, s24, s25, s26, s27, s28, s29, s30, s31, s32, s33, s34, s35, s36, s37, s38, s39, s40, s41, .int .i64 3, s43, s44, s45, s46, s47, s48, s49, s50, s51, s52, s53, s54, s55, s56, s57, s58, s59, s60, s61, s62, s63, s64, s65, s66, s67, s68, s69, s70, s71, s72, s73, s74, s75, s76, s77, s78, s79, s80, s81, s82, s83, s84, s85, s86, s87, s88, s89, s90, s91, s92, s93, s94, s95, s96, s97, s98, s99, s100, s101, s102, s103, s104, s105, s106, s107, s108, s109, s110, s111, s112, s113, s114, s115, s116, s117, s118, s119, s120, s121, s122, s123, s124, s125, s126, s127, s128, s129, s130, s131, s132, s133, s134, s135, s136, s137, s138, s139, s140, s141, s142, s143, s144, s145, s146, s147, s148, s149, s150, s151, s152, s153, s154, s155, s156, s157, s158, s159, s160, s161, s162, s163, s164, s165, s166, s167, s168, s169, s170, s171, s172, s173, s174, s175, s176, s177, s178, s179, s180, s181, s182, s183, s184, s185, s186, s187, s188, s189, s190, s191, s192, s193, s194, s195, s196, s197, s198, s199, s200, s201, s202, s203, s204, s205, s206, s207, s208, s209, s210, s211, s212, s213, s214, s215, s216, s217, s218, s219, s220, s221, s222, s223, s224, s225, s226, s227, s228, s229, s230, s231, s232, s233, s234, s235], []⟩ V1 := by
  have HT := Lib.hid hT
  have HX := Lib.hid hX
  have HY := Lib.hid hY
  have HIT := Lib.hid hit
  have HBX := Lib.hid hbx
  have HBL := Lib.hid hbl
  have HN := Lib.hid hn
  have HC := Lib.hid hc
  have hitI : (1 : Int) - (me : Int) = (it : Int) := by omega
  have hit2 : it < 2 := by omega
  have hme0 : (0 : Int) ≤ (me : Int) := by omega
  have hme1 : (me : Int) < 2 := by omega
  have hit0 : (0 : Int) ≤ (it : Int) := by omega
  have hit1 : (it : Int) < 2 := by omega
  clear hT hX hY hit hbx hbl hn hc
  conv => arg 2; whnf
  have hGV : G + 1 + 1 < V1.heap.size := HT.out.lt
  have hGV1 : G + 1 < V1.heap.size := by omega
  obtain ⟨_, pu, _, _, yu, _⟩ := HT.out.cells hme
  obtain ⟨_, qu, _, _, zu, _⟩ := (HT.out.swap hme).cells (by omega)
  rw [← HIT.out] at qu zu
  obtain ⟨m0, m1, m2, mz0, mz1, mz2, hmg⟩ := HBX.out.three
  go_upto_region 28 with (fail)
  have fin : ∀ n, OnceAt w G (k + 1) (V1.drewN n) := fun n => once_back hme (HT.out.keep fun _ _ => rfl) HX.out HY.out (by omega) (by omega) ⟨HBL.out.os, HBL.out.tape, HBL.out.output, HBL.out.size, HBL.out.block⟩
  have FIN := Lib.hid fin
  clear fin
  by_cases b1 : ii < 0
  · go_quiet (fail)
    go_wp2_with fail
    apply HC.out
    exact FIN.out _
  · have b1' : 0 ≤ ii := by omega
    by_cases b2 : (x.u.length : Int) ≤ ii
    · go_quiet (fail)
      go_wp2_with fail
      apply HC.out
      exact FIN.out _
    · have b2' : ii < x.u.length := by omega
      have b3 : 4096 < (y.u.length : Int) := by omega
      go_quiet (fail)
      go_wp2_with fail
      apply HC.out
      exact FIN.out _

end Go.Proofs.Ytkklghdmnkdofaa
