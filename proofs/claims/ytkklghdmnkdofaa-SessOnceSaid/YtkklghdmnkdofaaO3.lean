/- SessOnce: the region that sends. By gen_once.py. -/
import Derived.Test.YtkklghdmnkdofaaO2
import Derived.Deep.DeepCutAuto
import Derived.Deep.CutBlock
namespace Go.Proofs.Ytkklghdmnkdofaa
open Go.RowKit

set_option maxRecDepth 1000000 in
set_option maxHeartbeats 8000000 in
theorem r15 (G me it : Nat) (x y : ED) (V1 : World) (Q : Exit → Act → World → Prop) (s0 s1 s2 s6 s10 s11 s12 s13 s14 s15 s16 s17 s18 s19 s20 s21 s22 s23 s24 s25 s26 s27 s28 s29 s30 s31 s32 s33 s34 s35 s36 s37 s38 s39 s40 s41 s43 s44 s45 s46 s47 s48 s49 s50 s51 s52 s53 s54 s55 s56 s57 s58 s59 s60 s61 s62 s63 s64 s65 s66 s67 s68 s69 s70 s71 s72 s73 s74 s75 s76 s77 s78 s79 s80 s81 s82 s83 s84 s85 s86 s87 s88 s89 s90 s91 s92 s93 s94 s95 s96 s97 s98 s99 s100 s101 s102 s103 s104 s105 s106 s107 s108 s109 s110 s111 s112 s113 s114 s115 s116 s117 s118 s119 s120 s121 s122 s123 s124 s125 s126 s127 s128 s129 s130 s131 s132 s133 s134 s135 s136 s137 s138 s139 s140 s141 s142 s143 s144 s145 s146 s147 s148 s149 s150 s151 s152 s153 s154 s155 s156 s157 s158 s159 s160 s161 s162 s163 s164 s165 s166 s167 s168 s169 s170 s171 s172 s173 s174 s175 s176 s177 s178 s179 s180 s181 s182 s183 s184 s185 s186 s187 s188 s189 s190 s191 s192 s193 s194 s195 s196 s197 s198 s199 s200 s201 s202 s203 s204 s205 s206 s207 s208 s209 s210 s211 s212 s213 s214 s215 s216 s217 s218 s219 s220 s221 s222 s223 s224 s225 s226 s227 s228 s229 s230 s231 s232 s233 s234 s235 : Value) {bx : Nat} (hme : me < 2) (hT : Two V1 G me x y) (hgd : goodB x.s = true)
    (hn : ∀ (p q e : Value) (s45' s46' s47' s48' s49' s50' s51' s52' s53' s54' s55' s56' s57' s58' s59' s60' s61' s62' s63' : Value) (wx : World), SentAt V1 x.s p q e wx → Q .normal ⟨#[s0, s1, s2, .pointer (some ⟨G, 0, none⟩), .pointer (some ⟨G + 1, 0, none⟩), .pointer (some ⟨G + 1 + 1, 0, none⟩), s6, .pointer (some ⟨bx, 0, none⟩), .int .i64 (me : Int), .int .i64 (it : Int), p, q, e, s13, s14, s15, s16, s17, s18, s19, s20, s21, s22, s23, s24, s25, s26, s27, s28, s29, s30, s31, s32, s33, s34, s35, s36, s37, s38, s39, s40, s41, .int .i64 0, s43, s44, s45', s46', s47', s48', s49', s50', s51', s52', s53', s54', s55', s56', s57', s58', s59', s60', s61', s62', s63', s64, s65, s66, s67, s68, s69, s70, s71, s72, s73, s74, s75, s76, s77, s78, s79, s80, s81, s82, s83, s84, s85, s86, s87, s88, s89, s90, s91, s92, s93, s94, s95, s96, s97, s98, s99, s100, s101, s102, s103, s104, s105, s106, s107, s108, s109, s110, s111, s112, s113, s114, s115, s116, s117, s118, s119, s120, s121, s122, s123, s124, s125, s126, s127, s128, s129, s130, s131, s132, s133, s134, s135, s136, s137, s138, s139, s140, s141, s142, s143, s144, s145, s146, s147, s148, s149, s150, s151, s152, s153, s154, s155, s156, s157, s158, s159, s160, s161, s162, s163, s164, s165, s166, s167, s168, s169, s170, s171, s172, s173, s174, s175, s176, s177, s178, s179, s180, s181, s182, s183, s184, s185, s186, s187, s188, s189, s190, s191, s192, s193, s194, s195, s196, s197, s198, s199, s200, s201, s202, s203, s204, s205, s206, s207, s208, s209, s210, s211, s212, s213, s214, s215, s216, s217, s218, s219, s220, s221, s222, s223, s224, s225, s226, s227, s228, s229, s230, s231, s232, s233, s234, s235], []⟩ wx) : Code.wp Try.prog r15Code Q ⟨#[s0, s1, s2, .pointer (some ⟨G, 0, none⟩), .pointer (some ⟨G + 1, 0, none⟩), .pointer (some ⟨G + 1 + 1, 0, none⟩), s6, .pointer (some ⟨bx, 0, none⟩), .int .i64 (me : Int), .int .i64 (it : Int), s10, s11, s12, s13, s14, s15, s16, s17, s18, s19, s20, s21, s22, s23, s24, s25, s26, s27, s28, s29, s30, s31, s32, s33, s34, s35, s36, s37, s38, s39, s40, s41, .int .i64 0, s43, s44, s45, s46, s47, s48, s49, s50, s51, s52, s53, s54, s55, s56, s57, s58, s59, s60, s61, s62, s63, s64, s65, s66, s67, s68, s69, s70, s71, s72, s73, s74, s75, s76, s77, s78, s79, s80, s81, s82, s83, s84, s85, s86, s87, s88, s89, s90, s91, s92, s93, s94, s95, s96, s97, s98, s99, s100, s101, s102, s103, s104, s105, s106, s107, s108, s109, s110, s111, s112, s113, s114, s115, s116, s117, s118, s119, s120, s121, s122, s123, s124, s125, s126, s127, s128, s129, s130, s131, s132, s133, s134, s135, s136, s137, s138, s139, s140, s141, s142, s143, s144, s145, s146, s147, s148, s149, s150, s151, s152, s153, s154, s155, s156, s157, s158, s159, s160, s161, s162, s163, s164, s165, s166, s167, s168, s169, s170, s171, s172, s173, s174, s175, s176, s177, s178, s179, s180, s181, s182, s183, s184, s185, s186, s187, s188, s189, s190, s191, s192, s193, s194, s195, s196, s197, s198, s199, s200, s201, s202, s203, s204, s205, s206, s207, s208, s209, s210, s211, s212, s213, s214, s215, s216, s217, s218, s219, s220, s221, s222, s223, s224, s225, s226, s227, s228, s229, s230, s231, s232, s233, s234, s235], []⟩ V1 := by
  have HT := Lib.hid hT
  have HN := Lib.hid hn
  have HGD := Lib.hid hgd
  have hme0 : (0 : Int) ≤ (me : Int) := by omega
  have hme1 : (me : Int) < 2 := by omega
  clear hT hn hgd
  conv => arg 2; whnf
  have HS : Hid (∀ w', Below V1.heap.size V1 w' → (fun w' => Below V1.heap.size V1 w' ∧ w'.cell? ⟨G, me * 3, none⟩ = some (.slice x.A x.s.sent.length x.c) ∧ w'.cell? ⟨G, me * 3 + 1, none⟩ = some (.int .i64 x.s.taken) ∧ w'.cell? ⟨G, me * 3 + 2, none⟩ = some (.int .i64 x.s.known)) w') := fun w' h => by
    have a := ((HT.out.below h (Nat.le_refl _)).cells hme).1
    exact ⟨h, a.1, a.2.1, a.2.2⟩
  have hconv := conv_two
  have hu8 := isU8_int
  have hA3 := alloc3_first V1
  have HS2 : Hid (∀ (W : World) m, (m : ByteArray).size = 2 → Below V1.heap.size V1 W → _) := fun W m hm hB => send_two x.A x.s.sent.length x.c x.s m W HGD.out hm rfl ((Rd.of_own HT.out.xA).below hB |>.mono hB.size)
  have hn1 : ¬ V1.heap.size = V1.heap.size + 1 := by omega
  have hn2 : ¬ V1.heap.size = V1.heap.size + 1 + 1 := by omega
  have hn3 : ¬ V1.heap.size + 1 = V1.heap.size := by omega
  have hn4 : ¬ V1.heap.size + 1 + 1 = V1.heap.size := by omega
  refine wp_region_noPanic ?_
  go_region_held (fun w' => Below V1.heap.size V1 w' ∧ w'.cell? ⟨G, me * 3, none⟩ = some (.slice x.A x.s.sent.length x.c) ∧ w'.cell? ⟨G, me * 3 + 1, none⟩ = some (.int .i64 x.s.taken) ∧ w'.cell? ⟨G, me * 3 + 2, none⟩ = some (.int .i64 x.s.known))
    (first
      | with_reducible assumption
      | (refine HS.out _ ?_; repeat (first | with_reducible exact HP.out | with_reducible exact Below.refl _ _ | with_reducible refine Below.drew ?_ | with_reducible refine Below.alloc ?_ (by first | exact Nat.le_refl _ | assumption | (simp <;> fail) | (simp; omega)) _ | with_reducible refine Below.setCell ?_ (by first | exact Nat.le_refl _ | (simp <;> fail) | (simp; omega)) _)))
    (first
      | (go_at_call 16; obtain ⟨hB, -⟩ := ‹Below V1.heap.size V1 _ ∧ _›; refine (HS2.out _ _ (twoBytes_size _ _) hB).mono ?_; rintro e w2 ⟨A', c', s', f, er, rfl, hcase, ⟨Bz, hBz, hown⟩, hb2⟩; have HP : Hid (Below V1.heap.size V1 w2) := hB.trans (hb2.mono hB.size); have hsz2 := HP.out.size; have h5 := HS.out _ HP.out; have hc2 := fun p hp => hb2.cell (p := p) hp; have hf2 := fun p hp => hb2.frozen (p := p) hp; have hsz3 := hb2.size; simp at hsz3; simp at hBz; have HBZ := Lib.hid hBz; clear hBz; have gg0 : V1.heap.size < w2.heap.size := (by omega); (try (have gg1 : V1.heap.size + 1 < w2.heap.size := (by omega))); (try (have gg2 : V1.heap.size + 1 + 1 < w2.heap.size := (by omega))); have HCASE := Lib.hid hcase; have HOWN := Lib.hid hown; have HBB := Lib.hid hb2; clear hcase hown hb2 hB))
  all_goals
    refine NoPanic.normal ?_
    apply HN.out
    have hBz := HBZ.out
    have hVz : V1.heap.size ≤ Bz := by omega
    first
      | with_reducible exact sent1 HCASE.out HOWN.out hVz HP.out
      | with_reducible exact sent2 HCASE.out HOWN.out hVz HP.out
      | with_reducible refine sent3 HCASE.out HOWN.out hVz HP.out ?_ ?_ ?_
      | with_reducible refine sent4 HCASE.out HOWN.out hVz HP.out ?_ ?_ ?_
      | with_reducible refine sent5 HCASE.out HOWN.out hVz HP.out ?_ ?_ ?_ ?_ ?_ ?_ ?_
    all_goals first
      | omega
      | ((with_reducible refine Bk.below ?_ HBB.out ?_)
         · repeat (first
            | with_reducible exact Bk.new _ _ _
            | (with_reducible refine Bk.new' _ _ _ ?_; (simp <;> fail))
            | with_reducible refine Bk.alloc ?_ _
            | with_reducible refine Bk.drew ?_)
         · simp; try omega)

end Go.Proofs.Ytkklghdmnkdofaa
