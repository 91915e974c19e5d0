/- SessOnce: each end is looked at behind a move. By gen_once.py. -/
import Derived.Test.YtkklghdmnkdofaaQ0
import Derived.Deep.DeepCutAuto
import Derived.Deep.CutBlock
namespace Go.Proofs.Ytkklghdmnkdofaa
open Go.RowKit

noncomputable def restCode : Code := ((csub onceCode [true, true, true, true]).getD .skip)

set_option maxRecDepth 1000000 in
set_option maxHeartbeats 8000000 in
theorem onceRest (w : World) (G k : Nat) (W0 : World) (Q : Exit → Act → World → Prop) (s0 s1 s2 s6 s7 s8 s9 s10 s11 s12 s13 s14 s15 s16 s17 s18 s19 s20 s21 s22 s23 s24 s25 s26 s27 s28 s29 s30 s31 s32 s33 s34 s35 s36 s37 s38 s39 s40 s41 s42 s43 s44 s45 s46 s47 s48 s49 s50 s51 s52 s53 s54 s55 s56 s57 s58 s59 s60 s61 s62 s63 s64 s65 s66 s67 s68 s69 s70 s71 s72 s73 s74 s75 s76 s77 s78 s79 s80 s81 s82 s83 s84 s85 s86 s87 s88 s89 s90 s91 s92 s93 s94 s95 s96 s97 s98 s99 s100 s101 s102 s103 s104 s105 s106 s107 s108 s109 s110 s111 s112 s113 s114 s115 s116 s117 s118 s119 s120 s121 s122 s123 s124 s125 s126 s127 s128 s129 s130 s131 s132 s133 s134 s135 s136 s137 s138 s139 s140 s141 s142 s143 s144 s145 s146 s147 s148 s149 s150 s151 s152 s153 s154 s155 s156 s157 s158 s159 s160 s161 s162 s163 s164 s165 s166 s167 s168 s169 s170 s171 s172 s173 s174 s175 s176 s177 s178 s179 s180 s181 s182 s183 s184 s185 s186 s187 s188 s189 s190 s191 s192 s193 s194 s195 s196 s197 s198 s199 s200 s201 s202 s203 s204 s205 s206 s207 s208 s209 s210 s211 s212 s213 s214 s215 s216 s217 s218 s219 s220 s221 s222 s223 s224 s225 s226 s227 s228 s229 s230 s231 s232 s233 s234 s235 : Value) (hO : OnceAt w G k W0)
    (hn : ∀ (s2' s20' s21' s22' s23' s180' s181' s182' s183' s184' s185' s186' s187' s188' s189' s190' s191' s192' s193' s194' s195' s196' s197' s198' s199' s200' s201' s202' s203' s204' s205' s206' s207' s208' s209' s210' s211' s212' s213' s214' s215' s216' s217' s218' s219' s220' s221' s222' s223' s224' s225' s226' s227' s228' s229' s230' s231' s232' s233' s234' : Value) (wx : World), OnceAt w G k wx → Q .normal ⟨#[s0, s1, s2', .pointer (some ⟨G, 0, none⟩), .pointer (some ⟨G + 1, 0, none⟩), .pointer (some ⟨G + 1 + 1, 0, none⟩), s6, s7, s8, s9, s10, s11, s12, s13, s14, s15, s16, s17, s18, s19, s20', s21', s22', s23', s24, s25, s26, s27, s28, s29, s30, s31, s32, s33, s34, s35, s36, s37, s38, s39, s40, s41, s42, s43, s44, s45, s46, s47, s48, s49, s50, s51, s52, s53, s54, s55, s56, s57, s58, s59, s60, s61, s62, s63, s64, s65, s66, s67, s68, s69, s70, s71, s72, s73, s74, s75, s76, s77, s78, s79, s80, s81, s82, s83, s84, s85, s86, s87, s88, s89, s90, s91, s92, s93, s94, s95, s96, s97, s98, s99, s100, s101, s102, s103, s104, s105, s106, s107, s108, s109, s110, s111, s112, s113, s114, s115, s116, s117, s118, s119, s120, s121, s122, s123, s124, s125, s126, s127, s128, s129, s130, s131, s132, s133, s134, s135, s136, s137, s138, s139, s140, s141, s142, s143, s144, s145, s146, s147, s148, s149, s150, s151, s152, s153, s154, s155, s156, s157, s158, s159, s160, s161, s162, s163, s164, s165, s166, s167, s168, s169, s170, s171, s172, s173, s174, s175, s176, s177, s178, s179, s180', s181', s182', s183', s184', s185', s186', s187', s188', s189', s190', s191', s192', s193', s194', s195', s196', s197', s198', s199', s200', s201', s202', s203', s204', s205', s206', s207', s208', s209', s210', s211', s212', s213', s214', s215', s216', s217', s218', s219', s220', s221', s222', s223', s224', s225', s226', s227', s228', s229', s230', s231', s232', s233', s234', s235], []⟩ wx) : Code.wp Try.prog restCode Q ⟨#[s0, s1, s2, .pointer (some ⟨G, 0, none⟩), .pointer (some ⟨G + 1, 0, none⟩), .pointer (some ⟨G + 1 + 1, 0, none⟩), s6, s7, s8, s9, s10, s11, s12, s13, s14, s15, s16, s17, s18, s19, s20, s21, s22, s23, s24, s25, s26, s27, s28, s29, s30, s31, s32, s33, s34, s35, s36, s37, s38, s39, s40, s41, s42, s43, s44, s45, s46, s47, s48, s49, s50, s51, s52, s53, s54, s55, s56, s57, s58, s59, s60, s61, s62, s63, s64, s65, s66, s67, s68, s69, s70, s71, s72, s73, s74, s75, s76, s77, s78, s79, s80, s81, s82, s83, s84, s85, s86, s87, s88, s89, s90, s91, s92, s93, s94, s95, s96, s97, s98, s99, s100, s101, s102, s103, s104, s105, s106, s107, s108, s109, s110, s111, s112, s113, s114, s115, s116, s117, s118, s119, s120, s121, s122, s123, s124, s125, s126, s127, s128, s129, s130, s131, s132, s133, s134, s135, s136, s137, s138, s139, s140, s141, s142, s143, s144, s145, s146, s147, s148, s149, s150, s151, s152, s153, s154, s155, s156, s157, s158, s159, s160, s161, s162, s163, s164, s165, s166, s167, s168, s169, s170, s171, s172, s173, s174, s175, s176, s177, s178, s179, s180, s181, s182, s183, s184, s185, s186, s187, s188, s189, s190, s191, s192, s193, s194, s195, s196, s197, s198, s199, s200, s201, s202, s203, s204, s205, s206, s207, s208, s209, s210, s211, s212, s213, s214, s215, s216, s217, s218, s219, s220, s221, s222, s223, s224, s225, s226, s227, s228, s229, s230, s231, s232, s233, s234, s235], []⟩ W0 := by
  have HO := Lib.hid hO
  have HN := Lib.hid hn
  clear hO hn
  conv => arg 2; whnf
  go_upto_region 40 with (fail)
  go_loopw [20] (fun i wr => ∃ who : Nat, who ≤ 2 ∧ i = .int .i64 who ∧ OnceAt w G k wr) (fun i _ => 2 - (intOf i).toNat)
  case atStart => exact ⟨0, Nat.zero_le _, rfl, HO.out⟩
  case round =>
    obtain ⟨who, hwho, rfl, ho⟩ := hrel
    have HOr := Lib.hid ho
    clear ho
    rename World => V
    by_cases hlt : who < 2
    · obtain ⟨x0, y0, hT0, hX0, hY0, _, _, _⟩ := HOr.out
      obtain ⟨ot, hot⟩ : ∃ ot : Nat, ot = 1 - who := ⟨_, rfl⟩
      have hotI : (1 : Int) - (who : Int) = (ot : Int) := by omega
      obtain ⟨x, y, hT, hX, hY⟩ : ∃ x y, Two V G who x y ∧ Half x.s x.u x.g y.s y.g ∧ Half y.s y.u y.g x.s x.g := by
        obtain rfl | rfl : who = 0 ∨ who = 1 := by omega
        · exact ⟨x0, y0, hT0, hX0, hY0⟩
        · exact ⟨y0, x0, hT0.swap (by omega), hY0, hX0⟩
      have HT := Lib.hid hT
      have HX := Lib.hid hX
      have h0 : (0 : Int) ≤ (who : Int) := by omega
      have h1 : (who : Int) < 2 := by omega
      have h2 : (0 : Int) ≤ (ot : Int) := by omega
      have h3 : (ot : Int) < 2 := by omega
      have hpl := hX.pre.length_le
      have l1 : ¬ ((y.s.sent.length : Int) < (x.g.length : Int)) := by omega
      have l1' : ¬ (y.s.sent.length < x.g.length) := by omega
      have hkn := hX.kn
      have hgl : x.g.length ≤ 256 := by
        have := (good_parts hY.good).1
        omega
      have l3 : ¬ ((x.g.length : Int) < y.s.known) := by omega
      have htk := hX.tk
      obtain ⟨⟨_, a1, _⟩, _, ac, ⟨_, za1, _⟩, _, zac⟩ := hT.cells hlt
      obtain ⟨⟨b0, _, b2⟩, _, _, ⟨zb0, _, zb2⟩, _, _⟩ := (hT.swap hlt).cells (by omega)
      rw [← hot] at b0 b2 zb0 zb2
      rw [htk] at a1
      have l4 : ((x.g.length : Int) != (x.g.length : Int)) = false := by simp
      clear hT hX hY hT0 hX0 hY0 htk hot
      go_upto_region 43 with (fail)
      go_quiet (fail)
      rename Nat => n0
      obtain ⟨W1, hW1⟩ : ∃ W1, W1 = V.drewN n0 := ⟨_, rfl⟩
      have HT1 : Hid (Two W1 G who x y) := by rw [hW1]; exact HT.out.keep fun _ _ => rfl
      have HO1 : Hid (OnceAt w G k W1) := by
        obtain ⟨x0, y0, hT0, hX0, hY0, hu, hv, hb⟩ := HOr.out
        rw [hW1]; exact ⟨x0, y0, hT0.keep fun _ _ => rfl, hX0, hY0, hu, hv, ⟨hb.os, hb.tape, hb.output, hb.size, hb.block⟩⟩
      clear a1 ac za1 zac b0 b2 zb0 zb2 h2 h3 hkn l3
      go_upto_region 45 with (fail)
      rw [← hW1]
      clear hW1
      obtain ⟨_, _, ac, _, _, zac⟩ := HT1.out.cells hlt
      go_upto_region 46 with (fail)
      go_loopw [223] (fun i wq => ∃ j : Nat, j ≤ x.g.length ∧ i = .int .i64 j ∧ wq = W1) (fun i _ => x.g.length - (intOf i).toNat)
      case atStart => exact ⟨0, Nat.zero_le _, rfl, rfl⟩
      case round =>
        obtain ⟨j, hj, rfl, rfl⟩ := hrel
        rename World => W1
        by_cases hltj : j < x.g.length
        · obtain ⟨bs, hbs⟩ : ∃ bs, x.g[j]? = some bs := ⟨_, List.getElem?_eq_getElem hltj⟩
          have hbs2 : y.s.sent[j]? = some bs := by
            obtain ⟨r, hr⟩ := HX.out.pre
            rw [← hr, List.getElem?_append_left hltj]; exact hbs
          obtain ⟨ax, hax, _, cx⟩ := (Rd.of_own HT1.out.xC).cell (j := j) (u := .string bs) (by simp [hbs])
          obtain ⟨ay, hay, _, cy⟩ := (Rd.of_own HT1.out.yA).cell (j := j) (u := .string bs) (by simp [hbs2])
          have i1 : (0 : Int) ≤ (j : Int) := by omega
          have i2 : (j : Int) < (x.g.length : Int) := by omega
          have i4 : (j : Int) < (y.s.sent.length : Int) := by omega
          rw [hax, hay]
          clear hbs hbs2
          go_wp2
          go_roundw
          case rel => exact ⟨j + 1, by omega, by go_num, trivial⟩
          case measure => simp [intOf]; omega
        · have i5 : ¬ ((j : Int) < (x.g.length : Int)) := by omega
          go_wp2
          go_roundw
          case rel => exact ⟨who + 1, by omega, by go_num, HO1.out⟩
          case measure => simp [intOf]; omega
    · have i3 : ¬ ((who : Int) < 2) := by omega
      go_wp2
      apply HN.out
      exact HOr.out

end Go.Proofs.Ytkklghdmnkdofaa
