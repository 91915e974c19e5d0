/- SessKeeps: the region that makes the copy, each order of it. By mk_keeps.py. -/
import Derived.Test.YtkklghdmnkdofaaO2
import Derived.Test.YtkklghdmnkdofaaN1
import Derived.Deep.DeepCutAuto
import Derived.Deep.CutBlock
namespace Go.Proofs.Ytkklghdmnkdofaa
open Go.RowKit

theorem own_empty {V : World} {base g : Nat} (h : Bk V g 9 #[]) (hb : base ≤ g) : V.ownsRow base 9 1 (.slice (some ⟨g, 0, none⟩) 0 0) 0 [] :=
  ⟨by simp, .inr ⟨g, 0, #[], rfl, hb, h, Nat.le_refl _, Nat.zero_le _, by simp, by simp⟩⟩
theorem rd_xy {V : World} {g : Nat} (h : Bk V g 9 #[.string ⟨#[120]⟩, .string ⟨#[121]⟩]) : Rd V (g + 1) 1 (some ⟨g, 0, none⟩) 2 [.string ⟨#[120]⟩, .string ⟨#[121]⟩] :=
  ⟨rfl, fun _ => ⟨_, rfl, by simp, World.news_of_block h⟩⟩
theorem own_ne_bk {w : World} {base e size n c g : Nat} {t : TypeId} {A : Option Addr} {xs : List Value} {cs : Array Value} (h : w.ownsRow base e size (.slice A n c) n xs) (hb : Bk w g t cs) (hne : e ≠ t) : some g ≠ (Value.slice A n c).ownBlock := by
  intro he
  rcases h.2 with ⟨hv, _⟩ | ⟨b, cap, cur, hv, _, hh, _⟩
  · rw [hv] at he
    cases he
  · rw [hv] at he
    have e1 : g = b := Option.some.inj he
    subst e1
    unfold Bk at hb
    rw [hb] at hh
    injection hh with hh
    injection hh with _ h2 _
    exact hne h2.symm

/-- The copy 'mine', its row longer by two. -/
def MineAt (V : World) (n : Nat) (s : Sd) (v : Value) (wc : World) : Prop :=
  ∃ g A c, v = .pointer (some ⟨g, 0, none⟩) ∧ V.heap.size ≤ g ∧ Bk wc g 24 #[.slice A n c, .int .i64 s.taken, .int .i64 s.known] ∧ n + 2 ≤ c ∧ c ≤ maxLen ∧
    wc.ownsRow V.heap.size 9 1 (.slice A (n + 2) c) (n + 2) (s.sent.map Value.string ++ [.string ⟨#[120]⟩, .string ⟨#[121]⟩]) ∧ Below V.heap.size V wc
noncomputable def keepsR3Code : Code := ((Try.f4.body.bind fun c => csub c [true, true, false]).getD .skip)

set_option maxRecDepth 1000000 in
set_option maxHeartbeats 8000000 in
theorem keepsR3 (gs : Nat) (A : Option Addr) (n c : Nat) (s : Sd) (V : World) (Q : Exit → Act → World → Prop) (s0 s1 s2 s4 s5 s6 s7 s8 s9 s10 s11 s12 s13 s14 s15 s16 s17 s18 s19 s20 s21 s22 s23 s24 s25 s26 s27 s28 s29 s30 s31 s32 s33 s34 s35 s36 s37 s38 s39 s40 s41 s42 s43 s44 s45 s46 s47 s48 s49 s50 s51 s52 s53 s54 s55 s56 s57 s58 s59 s60 s61 s62 s63 s64 s65 s66 s67 s68 s69 s70 s71 s72 s73 s74 s75 s76 s77 s78 s79 s80 s81 s82 s83 s84 s85 s86 s87 s88 s89 s90 s91 s92 s93 s94 s95 s96 s97 s98 s99 s100 s101 s102 s103 s104 s105 s106 s107 s108 s109 s110 s111 s112 s113 s114 s115 s116 s117 s118 s119 s120 s121 s122 s123 s124 s125 s126 s127 s128 s129 s130 s131 s132 s133 s134 s135 s136 s137 s138 s139 s140 s141 s142 s143 s144 s145 s146 s147 s148 s149 s150 s151 s152 s153 s154 s155 s156 s157 s158 s159 s160 : Value) (hn16 : (n + 2) * 16 ≤ 140737488355328) (hgs : Bk V gs 24 #[.slice A n c, .int .i64 s.taken, .int .i64 s.known]) (hr : Rd V V.heap.size 1 A n (s.sent.map Value.string))
    (hn : ∀ (v s29' s30' s31' s32' s33' s34' s35' s36' s37' s38' s39' s40' s41' s42' s43' : Value) (wx : World), MineAt V n s v wx → Q .normal ⟨#[s0, s1, s2, .pointer (some ⟨gs, 0, none⟩), s4, s5, s6, v, s8, s9, s10, s11, s12, s13, s14, s15, s16, s17, s18, s19, s20, s21, s22, s23, s24, s25, s26, s27, s28, s29', s30', s31', s32', s33', s34', s35', s36', s37', s38', s39', s40', s41', s42', s43', s44, s45, s46, s47, s48, s49, s50, s51, s52, s53, s54, s55, s56, s57, s58, s59, s60, s61, s62, s63, s64, s65, s66, s67, s68, s69, s70, s71, s72, s73, s74, s75, s76, s77, s78, s79, s80, s81, s82, s83, s84, s85, s86, s87, s88, s89, s90, s91, s92, s93, s94, s95, s96, s97, s98, s99, s100, s101, s102, s103, s104, s105, s106, s107, s108, s109, s110, s111, s112, s113, s114, s115, s116, s117, s118, s119, s120, s121, s122, s123, s124, s125, s126, s127, s128, s129, s130, s131, s132, s133, s134, s135, s136, s137, s138, s139, s140, s141, s142, s143, s144, s145, s146, s147, s148, s149, s150, s151, s152, s153, s154, s155, s156, s157, s158, s159, s160], []⟩ wx) : Code.wp Try.prog keepsR3Code Q ⟨#[s0, s1, s2, .pointer (some ⟨gs, 0, none⟩), s4, s5, s6, s7, s8, s9, s10, s11, s12, s13, s14, s15, s16, s17, s18, s19, s20, s21, s22, s23, s24, s25, s26, s27, s28, s29, s30, s31, s32, s33, s34, s35, s36, s37, s38, s39, s40, s41, s42, s43, s44, s45, s46, s47, s48, s49, s50, s51, s52, s53, s54, s55, s56, s57, s58, s59, s60, s61, s62, s63, s64, s65, s66, s67, s68, s69, s70, s71, s72, s73, s74, s75, s76, s77, s78, s79, s80, s81, s82, s83, s84, s85, s86, s87, s88, s89, s90, s91, s92, s93, s94, s95, s96, s97, s98, s99, s100, s101, s102, s103, s104, s105, s106, s107, s108, s109, s110, s111, s112, s113, s114, s115, s116, s117, s118, s119, s120, s121, s122, s123, s124, s125, s126, s127, s128, s129, s130, s131, s132, s133, s134, s135, s136, s137, s138, s139, s140, s141, s142, s143, s144, s145, s146, s147, s148, s149, s150, s151, s152, s153, s154, s155, s156, s157, s158, s159, s160], []⟩ V := by
  obtain ⟨i0, hi, yz0, yz1, yz2⟩ := info_parts info9
  have HR := Lib.hid hr
  have HN := Lib.hid hn
  have HG := Lib.hid hgs
  clear hr hn hgs
  conv => arg 2; whnf
  have HS : Hid (∀ w', Below V.heap.size V w' → (fun w' => Below V.heap.size V w' ∧ w'.cell? ⟨gs, 0, none⟩ = some (.slice A n c) ∧ w'.cell? ⟨gs, 1, none⟩ = some (.int .i64 s.taken) ∧ w'.cell? ⟨gs, 2, none⟩ = some (.int .i64 s.known)) w') := fun w' h => by
    have a := (HG.out.below h HG.out.lt).three
    exact ⟨h, a.1, a.2.1, a.2.2.1⟩
  obtain ⟨W0, hW⟩ : ∃ W0, W0 = V.drew := ⟨_, rfl⟩
  have HB0 : Hid (Below V.heap.size V W0) := by rw [hW]; exact (Below.refl _ V).drew
  have hv0 := HB0.out.size
  have hj0 : (0 : Int) ≤ (n : Int) := by omega
  refine wp_region_noPanic ?_
  refine region_anyL (fun w' => Below V.heap.size V w' ∧ w'.cell? ⟨gs, 0, none⟩ = some (.slice A n c) ∧ w'.cell? ⟨gs, 1, none⟩ = some (.int .i64 s.taken) ∧ w'.cell? ⟨gs, 2, none⟩ = some (.int .i64 s.known)) 16 (by kernel_rfl) ?_
  rw [← hW]
  clear hW
  refine anyL_take (i := 1) (oi := { dst := some 30, op := Op.fieldAddr 24 (Operand.tmp 3) 0, type := 0, pos := "law.go:193", after := #[], guard := none }) (v := ?_) rfl (by kernel_rfl) (by kernel_rfl) (by kernel_rfl) (by kernel_rfl) (fun _ _ _ h => h) (Or.inl ⟨by rfl, ?_⟩) (HS.out _ HB0.out) ?_
  rotate_left
  · intro w hSw
    try dsimp only at hSw
    obtain ⟨_, e1, e2, e3⟩ := hSw
    first | (go_simp <;> fail) | (go_simp; with_reducible rfl)
  simp only [Act.put, List.setIfInBounds_toArray, List.set_cons_zero, List.set_cons_succ]
  refine anyL_take (i := 2) (oi := { dst := some 31, op := Op.load 22 (Operand.tmp 30), type := 22, pos := "law.go:193", after := #[{ on := 1, ground := Ground.data }], guard := none }) (v := ?_) rfl (by kernel_rfl) (by kernel_rfl) (by kernel_rfl) (by kernel_rfl) (fun _ _ _ h => h) (Or.inl ⟨by rfl, ?_⟩) (HS.out _ HB0.out) ?_
  rotate_left
  · intro w hSw
    try dsimp only at hSw
    obtain ⟨_, e1, e2, e3⟩ := hSw
    first | (go_simp <;> fail) | (go_simp; with_reducible rfl)
  simp only [Act.put, List.setIfInBounds_toArray, List.set_cons_zero, List.set_cons_succ]
  refine anyL_take (i := 6) (oi := { dst := some 35, op := Op.fieldAddr 24 (Operand.tmp 3) 0, type := 0, pos := "law.go:193", after := #[], guard := none }) (v := ?_) rfl (by kernel_rfl) (by kernel_rfl) (by kernel_rfl) (by kernel_rfl) (fun _ _ _ h => h) (Or.inl ⟨by rfl, ?_⟩) (HS.out _ HB0.out) ?_
  rotate_left
  · intro w hSw
    try dsimp only at hSw
    obtain ⟨_, e1, e2, e3⟩ := hSw
    first | (go_simp <;> fail) | (go_simp; with_reducible rfl)
  simp only [Act.put, List.setIfInBounds_toArray, List.set_cons_zero, List.set_cons_succ]
  refine anyL_take (i := 7) (oi := { dst := some 36, op := Op.load 22 (Operand.tmp 35), type := 22, pos := "law.go:193", after := #[{ on := 6, ground := Ground.data }], guard := none }) (v := ?_) rfl (by kernel_rfl) (by kernel_rfl) (by kernel_rfl) (by kernel_rfl) (fun _ _ _ h => h) (Or.inl ⟨by rfl, ?_⟩) (HS.out _ HB0.out) ?_
  rotate_left
  · intro w hSw
    try dsimp only at hSw
    obtain ⟨_, e1, e2, e3⟩ := hSw
    first | (go_simp <;> fail) | (go_simp; with_reducible rfl)
  simp only [Act.put, List.setIfInBounds_toArray, List.set_cons_zero, List.set_cons_succ]
  refine anyL_take (i := 8) (oi := { dst := some 37, op := Op.call { callee := Callee.builtin Builtin.len, args := #[Operand.tmp 36], argTypes := #[22] }, type := 3, pos := "law.go:193", after := #[{ on := 7, ground := Ground.data }], guard := none }) (v := ?_) rfl (by kernel_rfl) (by kernel_rfl) (by kernel_rfl) (by kernel_rfl) (fun _ _ _ h => h) (Or.inl ⟨by rfl, ?_⟩) (HS.out _ HB0.out) ?_
  rotate_left
  · intro w hSw
    try dsimp only at hSw
    obtain ⟨_, e1, e2, e3⟩ := hSw
    first | (go_simp <;> fail) | (go_simp; with_reducible rfl)
  simp only [Act.put, List.setIfInBounds_toArray, List.set_cons_zero, List.set_cons_succ]
  refine anyL_take (i := 10) (oi := { dst := some 39, op := Op.fieldAddr 24 (Operand.tmp 3) 1, type := 0, pos := "law.go:193", after := #[], guard := none }) (v := ?_) rfl (by kernel_rfl) (by kernel_rfl) (by kernel_rfl) (by kernel_rfl) (fun _ _ _ h => h) (Or.inl ⟨by rfl, ?_⟩) (HS.out _ HB0.out) ?_
  rotate_left
  · intro w hSw
    try dsimp only at hSw
    obtain ⟨_, e1, e2, e3⟩ := hSw
    first | (go_simp <;> fail) | (go_simp; with_reducible rfl)
  simp only [Act.put, List.setIfInBounds_toArray, List.set_cons_zero, List.set_cons_succ]
  refine anyL_take (i := 11) (oi := { dst := some 40, op := Op.load 3 (Operand.tmp 39), type := 3, pos := "law.go:193", after := #[{ on := 10, ground := Ground.data }], guard := none }) (v := ?_) rfl (by kernel_rfl) (by kernel_rfl) (by kernel_rfl) (by kernel_rfl) (fun _ _ _ h => h) (Or.inl ⟨by rfl, ?_⟩) (HS.out _ HB0.out) ?_
  rotate_left
  · intro w hSw
    try dsimp only at hSw
    obtain ⟨_, e1, e2, e3⟩ := hSw
    first | (go_simp <;> fail) | (go_simp; with_reducible rfl)
  simp only [Act.put, List.setIfInBounds_toArray, List.set_cons_zero, List.set_cons_succ]
  refine anyL_take (i := 12) (oi := { dst := some 41, op := Op.fieldAddr 24 (Operand.tmp 3) 2, type := 0, pos := "law.go:193", after := #[], guard := none }) (v := ?_) rfl (by kernel_rfl) (by kernel_rfl) (by kernel_rfl) (by kernel_rfl) (fun _ _ _ h => h) (Or.inl ⟨by rfl, ?_⟩) (HS.out _ HB0.out) ?_
  rotate_left
  · intro w hSw
    try dsimp only at hSw
    obtain ⟨_, e1, e2, e3⟩ := hSw
    first | (go_simp <;> fail) | (go_simp; with_reducible rfl)
  simp only [Act.put, List.setIfInBounds_toArray, List.set_cons_zero, List.set_cons_succ]
  refine anyL_take (i := 13) (oi := { dst := some 42, op := Op.load 3 (Operand.tmp 41), type := 3, pos := "law.go:193", after := #[{ on := 12, ground := Ground.data }], guard := none }) (v := ?_) rfl (by kernel_rfl) (by kernel_rfl) (by kernel_rfl) (by kernel_rfl) (fun _ _ _ h => h) (Or.inl ⟨by rfl, ?_⟩) (HS.out _ HB0.out) ?_
  rotate_left
  · intro w hSw
    try dsimp only at hSw
    obtain ⟨_, e1, e2, e3⟩ := hSw
    first | (go_simp <;> fail) | (go_simp; with_reducible rfl)
  simp only [Act.put, List.setIfInBounds_toArray, List.set_cons_zero, List.set_cons_succ]
  refine anyL_all (rs := [0, 4, 15]) (by kernel_rfl) (by simp) ?_
  refine AllL.cons (o := { dst := some 29, op := Op.buildSlice 22 0 #[], type := 22, pos := "law.go:193", after := #[], guard := none }) rfl (fun K hK => ?_) ?_
  · skip
    go_simp
    refine hK.out _ _ ?_ ?_
    · exact fun _ => HS.out _ (HB0.out.alloc HB0.out.size _)
    clear hK K
    obtain ⟨W1, hW⟩ : ∃ W1, W1 = W0.alloc (.cells #[] 9) := ⟨_, rfl⟩
    rw [← hW]
    obtain ⟨b1, hb⟩ : ∃ b1, b1 = W0.heap.size := ⟨_, rfl⟩
    rw [← hb]
    have HB1 : Hid (Below V.heap.size V W1) := by rw [hW]; exact HB0.out.alloc HB0.out.size _
    have HK1 : Hid (Bk W1 b1 9 #[]) := by rw [hW, hb]; exact Bk.new _ _ _
    have hy1 : b1 < W1.heap.size := HK1.out.lt
    have hx1 : W0.heap.size ≤ b1 := by omega
    have hv1 := HB0.out.size
    clear hW hb
    refine anyL_all (rs := [3, 4, 15]) (by kernel_rfl) (by simp) ?_
    refine AllL.cons (o := { dst := some 32, op := Op.call { callee := Callee.builtin Builtin.append, args := #[Operand.tmp 29, Operand.tmp 31], argTypes := #[22, 22] }, type := 22, pos := "law.go:193", after := #[{ on := 0, ground := Ground.data }, { on := 2, ground := Ground.data }], guard := none }) rfl (fun K hK => ?_) ?_
    · skip
      refine step_append_rd _ (by rfl) (.tmp 29) (.tmp 31) _ (by rfl) V.heap.size 9 i0 _ 1 16 Try.underlying22 hi yz0 yz1 yz2 rfl (by omega) _ 0 [] (by rfl) (own_empty HK1.out (by omega)) V.heap.size A n c _ (by rfl) (HR.out.below HB1.out) (strs_one s.sent) (by unfold maxLen; omega) (by omega) HB1.out.size ?_
      intro A2 c2 W2 hc2 hm2 hown hg hat
      simp only [Nat.zero_add, List.nil_append] at hown hc2 ⊢
      have HB2 : Hid (Below V.heap.size V W2) := HB1.out.grown hg HB1.out.size (fun k hk => by have := Option.some.inj hk; simp at this; omega)
      have HO2 := Lib.hid hown
      have hv2 := hg.size
      have hu2 := HB2.out.size
      clear hown hg hat
      simp only [Act.put, List.setIfInBounds_toArray, List.set_cons_zero, List.set_cons_succ]
      refine hK.out _ _ ?_ ?_
      · exact fun _ => HS.out _ HB2.out
      clear hK K
      refine anyL_all (rs := [4, 15]) (by kernel_rfl) (by simp) ?_
      refine AllL.cons (o := { dst := some 33, op := Op.buildSlice 22 2 #[(0, Operand.const (Value.string { data := #[120] })), (1, Operand.const (Value.string { data := #[121] }))], type := 22, pos := "law.go:193", after := #[], guard := none }) rfl (fun K hK => ?_) ?_
      · skip
        go_simp
        refine hK.out _ _ ?_ ?_
        · exact fun _ => HS.out _ (HB2.out.alloc HB2.out.size _)
        clear hK K
        obtain ⟨W3, hW⟩ : ∃ W3, W3 = W2.alloc (.cells #[.string ⟨#[120]⟩, .string ⟨#[121]⟩] 9) := ⟨_, rfl⟩
        rw [← hW]
        obtain ⟨b3, hb⟩ : ∃ b3, b3 = W2.heap.size := ⟨_, rfl⟩
        rw [← hb]
        have HB3 : Hid (Below V.heap.size V W3) := by rw [hW]; exact HB2.out.alloc HB2.out.size _
        have HK3 : Hid (Bk W3 b3 9 #[.string ⟨#[120]⟩, .string ⟨#[121]⟩]) := by rw [hW, hb]; exact Bk.new _ _ _
        have hy3 : b3 < W3.heap.size := HK3.out.lt
        have hx3 : W2.heap.size ≤ b3 := by omega
        have hv3 := HB2.out.size
        have HO2_3 : Hid (W3.ownsRow V.heap.size 9 1 (.slice A2 n c2) n (s.sent.map Value.string)) := by rw [hW]; exact HO2.out.alloc _
        clear hW hb
        refine anyL_all (rs := [5, 15]) (by kernel_rfl) (by simp) ?_
        refine AllL.cons (o := { dst := some 34, op := Op.call { callee := Callee.builtin Builtin.append, args := #[Operand.tmp 32, Operand.tmp 33], argTypes := #[22, 22] }, type := 22, pos := "law.go:193", after := #[{ on := 3, ground := Ground.data }, { on := 4, ground := Ground.data }, { on := 3, ground := Ground.chain }], guard := none }) rfl (fun K hK => ?_) ?_
        · skip
          refine step_append_rd _ (by rfl) (.tmp 32) (.tmp 33) _ (by rfl) V.heap.size 9 i0 _ 1 16 Try.underlying22 hi yz0 yz1 yz2 rfl (by omega) _ n (s.sent.map Value.string) (by rfl) HO2_3.out (b3 + 1) _ 2 2 [.string ⟨#[120]⟩, .string ⟨#[121]⟩] (by rfl) (rd_xy HK3.out) (by simp [Value.oneCell']) (by unfold maxLen; omega) (by omega) HB3.out.size ?_
          intro A4 c4 W4 hc4 hm4 hown hg hat
          have HB4 : Hid (Below V.heap.size V W4) := HB3.out.grown hg HB3.out.size (fun k hk => (HO2_3.out.lt k hk).1)
          have HO4 := Lib.hid hown
          have hj4 : (n : Int) ≤ (c4 : Int) := by omega
          have hv4 := hg.size
          have hu4 := HB4.out.size
          clear hown hg hat
          simp only [Act.put, List.setIfInBounds_toArray, List.set_cons_zero, List.set_cons_succ]
          refine hK.out _ _ ?_ ?_
          · exact fun _ => HS.out _ HB4.out
          clear hK K
          refine anyL_take (i := 9) (oi := { dst := some 38, op := Op.slice 22 (Operand.tmp 34) none (some (Operand.tmp 37)) none, type := 22, pos := "law.go:193", after := #[{ on := 5, ground := Ground.data }, { on := 8, ground := Ground.data }], guard := none }) (v := ?_) rfl (by kernel_rfl) (by kernel_rfl) (by kernel_rfl) (by kernel_rfl) (fun _ _ _ h => h) (Or.inl ⟨by rfl, ?_⟩) (HS.out _ HB4.out) ?_
          rotate_left
          · intro w hSw
            try dsimp only at hSw
            obtain ⟨_, e1, e2, e3⟩ := hSw
            first | (go_simp <;> fail) | (go_simp; with_reducible rfl)
          simp only [Act.put, List.setIfInBounds_toArray, List.set_cons_zero, List.set_cons_succ]
          refine anyL_take (i := 14) (oi := { dst := some 43, op := Op.build 24 #[(0, Operand.tmp 38), (1, Operand.tmp 40), (2, Operand.tmp 42)], type := 24, pos := "law.go:193", after := #[{ on := 9, ground := Ground.data }, { on := 11, ground := Ground.data }, { on := 13, ground := Ground.data }], guard := none }) (v := ?_) rfl (by kernel_rfl) (by kernel_rfl) (by kernel_rfl) (by kernel_rfl) (fun _ _ _ h => h) (Or.inl ⟨by rfl, ?_⟩) (HS.out _ HB4.out) ?_
          rotate_left
          · intro w hSw
            try dsimp only at hSw
            obtain ⟨_, e1, e2, e3⟩ := hSw
            first | (go_simp <;> fail) | (go_simp; with_reducible rfl)
          simp only [Act.put, List.setIfInBounds_toArray, List.set_cons_zero, List.set_cons_succ]
          refine anyL_one (i := 15) (o := { dst := some 7, op := Op.alloc 24, type := 0, pos := "law.go:193", after := #[], guard := none }) (by kernel_rfl) rfl (fun K hK => ?_)
          go_simp
          refine hK.out _ _ ?_ ?_
          · exact fun _ => HS.out _ (HB4.out.alloc HB4.out.size _)
          clear hK K
          obtain ⟨W5, hW⟩ : ∃ W5, W5 = W4.alloc (.cells #[.slice none 0 0, .int .i64 0, .int .i64 0] 24) := ⟨_, rfl⟩
          rw [← hW]
          obtain ⟨b5, hb⟩ : ∃ b5, b5 = W4.heap.size := ⟨_, rfl⟩
          rw [← hb]
          have HB5 : Hid (Below V.heap.size V W5) := by rw [hW]; exact HB4.out.alloc HB4.out.size _
          have HK5 : Hid (Bk W5 b5 24 #[.slice none 0 0, .int .i64 0, .int .i64 0]) := by rw [hW, hb]; exact Bk.new _ _ _
          have hy5 : b5 < W5.heap.size := HK5.out.lt
          have hx5 : W4.heap.size ≤ b5 := by omega
          have hv5 := HB4.out.size
          have HO4_5 : Hid (W5.ownsRow V.heap.size 9 1 (.slice A4 (n + 2) c4) (n + 2) (s.sent.map Value.string ++ [.string ⟨#[120]⟩, .string ⟨#[121]⟩])) := by rw [hW]; exact HO4.out.alloc _
          clear hW hb
          refine anyL_one (i := 16) (o := { dst := none, op := Op.store 24 (Operand.tmp 7) (Operand.tmp 43), type := 0, pos := "law.go:193", after := #[{ on := 15, ground := Ground.data }, { on := 14, ground := Ground.data }, { on := 5, ground := Ground.chain }, { on := 0, ground := Ground.phase }, { on := 1, ground := Ground.phase }, { on := 2, ground := Ground.phase }, { on := 3, ground := Ground.phase }, { on := 4, ground := Ground.phase }, { on := 5, ground := Ground.phase }, { on := 6, ground := Ground.phase }, { on := 7, ground := Ground.phase }, { on := 8, ground := Ground.phase }, { on := 9, ground := Ground.phase }, { on := 10, ground := Ground.phase }, { on := 11, ground := Ground.phase }, { on := 12, ground := Ground.phase }, { on := 13, ground := Ground.phase }, { on := 14, ground := Ground.phase }, { on := 15, ground := Ground.phase }], guard := none }) (by kernel_rfl) rfl (fun K hK => ?_)
          obtain ⟨q0, q1, q2, z0, z1, z2, hgg⟩ := HK5.out.three
          go_simp
          refine hK.out _ _ (fun h => absurd rfl h) ?_
          clear hK K
          refine anyL_done (by kernel_rfl) ?_ _
          refine NoPanic.normal ?_
          apply HN.out
          have hap := own_ne_bk HO4_5.out HK5.out (by decide)
          have hin : V.heap.size ≤ b5 := by omega
          exact ⟨b5, _, _, rfl, hin, set3_cells HK5.out _ _ _, by omega, by omega, ownsRow_setCell_other (ownsRow_setCell_other (ownsRow_setCell_other HO4_5.out (a := ⟨b5, 0, none⟩) hap.symm _) (a := ⟨b5, 1, none⟩) hap.symm _) (a := ⟨b5, 2, none⟩) hap.symm _, Below.setCell (Below.setCell (Below.setCell HB5.out (p := ⟨b5, 0, none⟩) hin _) (p := ⟨b5, 1, none⟩) hin _) (p := ⟨b5, 2, none⟩) hin _⟩
        refine AllL.cons (o := { dst := some 7, op := Op.alloc 24, type := 0, pos := "law.go:193", after := #[], guard := none }) rfl (fun K hK => ?_) ?_
        · skip
          go_simp
          refine hK.out _ _ ?_ ?_
          · exact fun _ => HS.out _ (HB3.out.alloc HB3.out.size _)
          clear hK K
          obtain ⟨W7, hW⟩ : ∃ W7, W7 = W3.alloc (.cells #[.slice none 0 0, .int .i64 0, .int .i64 0] 24) := ⟨_, rfl⟩
          rw [← hW]
          obtain ⟨b7, hb⟩ : ∃ b7, b7 = W3.heap.size := ⟨_, rfl⟩
          rw [← hb]
          have HB7 : Hid (Below V.heap.size V W7) := by rw [hW]; exact HB3.out.alloc HB3.out.size _
          have HK7 : Hid (Bk W7 b7 24 #[.slice none 0 0, .int .i64 0, .int .i64 0]) := by rw [hW, hb]; exact Bk.new _ _ _
          have hy7 : b7 < W7.heap.size := HK7.out.lt
          have hx7 : W3.heap.size ≤ b7 := by omega
          have hv7 := HB3.out.size
          have HO2_3_7 : Hid (W7.ownsRow V.heap.size 9 1 (.slice A2 n c2) n (s.sent.map Value.string)) := by rw [hW]; exact HO2_3.out.alloc _
          have HK3_7 : Hid (Bk W7 b3 9 #[.string ⟨#[120]⟩, .string ⟨#[121]⟩]) := by rw [hW]; exact HK3.out.alloc _
          clear hW hb
          refine anyL_one (i := 5) (o := { dst := some 34, op := Op.call { callee := Callee.builtin Builtin.append, args := #[Operand.tmp 32, Operand.tmp 33], argTypes := #[22, 22] }, type := 22, pos := "law.go:193", after := #[{ on := 3, ground := Ground.data }, { on := 4, ground := Ground.data }, { on := 3, ground := Ground.chain }], guard := none }) (by kernel_rfl) rfl (fun K hK => ?_)
          refine step_append_rd _ (by rfl) (.tmp 32) (.tmp 33) _ (by rfl) V.heap.size 9 i0 _ 1 16 Try.underlying22 hi yz0 yz1 yz2 rfl (by omega) _ n (s.sent.map Value.string) (by rfl) HO2_3_7.out (b3 + 1) _ 2 2 [.string ⟨#[120]⟩, .string ⟨#[121]⟩] (by rfl) (rd_xy HK3_7.out) (by simp [Value.oneCell']) (by unfold maxLen; omega) (by omega) HB7.out.size ?_
          intro A8 c8 W8 hc8 hm8 hown hg hat
          have HB8 : Hid (Below V.heap.size V W8) := HB7.out.grown hg HB7.out.size (fun k hk => (HO2_3_7.out.lt k hk).1)
          have HO8 := Lib.hid hown
          have hj8 : (n : Int) ≤ (c8 : Int) := by omega
          have HK7_8 : Hid (Bk W8 b7 24 #[.slice none 0 0, .int .i64 0, .int .i64 0]) := HK7.out.grown hg (own_ne_bk HO2_3_7.out HK7.out (by decide))
          have hv8 := hg.size
          have hu8 := HB8.out.size
          clear hown hg hat
          simp only [Act.put, List.setIfInBounds_toArray, List.set_cons_zero, List.set_cons_succ]
          refine hK.out _ _ ?_ ?_
          · exact fun _ => HS.out _ HB8.out
          clear hK K
          refine anyL_take (i := 9) (oi := { dst := some 38, op := Op.slice 22 (Operand.tmp 34) none (some (Operand.tmp 37)) none, type := 22, pos := "law.go:193", after := #[{ on := 5, ground := Ground.data }, { on := 8, ground := Ground.data }], guard := none }) (v := ?_) rfl (by kernel_rfl) (by kernel_rfl) (by kernel_rfl) (by kernel_rfl) (fun _ _ _ h => h) (Or.inl ⟨by rfl, ?_⟩) (HS.out _ HB8.out) ?_
          rotate_left
          · intro w hSw
            try dsimp only at hSw
            obtain ⟨_, e1, e2, e3⟩ := hSw
            first | (go_simp <;> fail) | (go_simp; with_reducible rfl)
          simp only [Act.put, List.setIfInBounds_toArray, List.set_cons_zero, List.set_cons_succ]
          refine anyL_take (i := 14) (oi := { dst := some 43, op := Op.build 24 #[(0, Operand.tmp 38), (1, Operand.tmp 40), (2, Operand.tmp 42)], type := 24, pos := "law.go:193", after := #[{ on := 9, ground := Ground.data }, { on := 11, ground := Ground.data }, { on := 13, ground := Ground.data }], guard := none }) (v := ?_) rfl (by kernel_rfl) (by kernel_rfl) (by kernel_rfl) (by kernel_rfl) (fun _ _ _ h => h) (Or.inl ⟨by rfl, ?_⟩) (HS.out _ HB8.out) ?_
          rotate_left
          · intro w hSw
            try dsimp only at hSw
            obtain ⟨_, e1, e2, e3⟩ := hSw
            first | (go_simp <;> fail) | (go_simp; with_reducible rfl)
          simp only [Act.put, List.setIfInBounds_toArray, List.set_cons_zero, List.set_cons_succ]
          refine anyL_one (i := 16) (o := { dst := none, op := Op.store 24 (Operand.tmp 7) (Operand.tmp 43), type := 0, pos := "law.go:193", after := #[{ on := 15, ground := Ground.data }, { on := 14, ground := Ground.data }, { on := 5, ground := Ground.chain }, { on := 0, ground := Ground.phase }, { on := 1, ground := Ground.phase }, { on := 2, ground := Ground.phase }, { on := 3, ground := Ground.phase }, { on := 4, ground := Ground.phase }, { on := 5, ground := Ground.phase }, { on := 6, ground := Ground.phase }, { on := 7, ground := Ground.phase }, { on := 8, ground := Ground.phase }, { on := 9, ground := Ground.phase }, { on := 10, ground := Ground.phase }, { on := 11, ground := Ground.phase }, { on := 12, ground := Ground.phase }, { on := 13, ground := Ground.phase }, { on := 14, ground := Ground.phase }, { on := 15, ground := Ground.phase }], guard := none }) (by kernel_rfl) rfl (fun K hK => ?_)
          obtain ⟨q0, q1, q2, z0, z1, z2, hgg⟩ := HK7_8.out.three
          go_simp
          refine hK.out _ _ (fun h => absurd rfl h) ?_
          clear hK K
          refine anyL_done (by kernel_rfl) ?_ _
          refine NoPanic.normal ?_
          apply HN.out
          have hap := own_ne_bk HO8.out HK7_8.out (by decide)
          have hin : V.heap.size ≤ b7 := by omega
          exact ⟨b7, _, _, rfl, hin, set3_cells HK7_8.out _ _ _, by omega, by omega, ownsRow_setCell_other (ownsRow_setCell_other (ownsRow_setCell_other HO8.out (a := ⟨b7, 0, none⟩) hap.symm _) (a := ⟨b7, 1, none⟩) hap.symm _) (a := ⟨b7, 2, none⟩) hap.symm _, Below.setCell (Below.setCell (Below.setCell HB8.out (p := ⟨b7, 0, none⟩) hin _) (p := ⟨b7, 1, none⟩) hin _) (p := ⟨b7, 2, none⟩) hin _⟩
        exact AllL.nil
      refine AllL.cons (o := { dst := some 7, op := Op.alloc 24, type := 0, pos := "law.go:193", after := #[], guard := none }) rfl (fun K hK => ?_) ?_
      · skip
        go_simp
        refine hK.out _ _ ?_ ?_
        · exact fun _ => HS.out _ (HB2.out.alloc HB2.out.size _)
        clear hK K
        obtain ⟨W10, hW⟩ : ∃ W10, W10 = W2.alloc (.cells #[.slice none 0 0, .int .i64 0, .int .i64 0] 24) := ⟨_, rfl⟩
        rw [← hW]
        obtain ⟨b10, hb⟩ : ∃ b10, b10 = W2.heap.size := ⟨_, rfl⟩
        rw [← hb]
        have HB10 : Hid (Below V.heap.size V W10) := by rw [hW]; exact HB2.out.alloc HB2.out.size _
        have HK10 : Hid (Bk W10 b10 24 #[.slice none 0 0, .int .i64 0, .int .i64 0]) := by rw [hW, hb]; exact Bk.new _ _ _
        have hy10 : b10 < W10.heap.size := HK10.out.lt
        have hx10 : W2.heap.size ≤ b10 := by omega
        have hv10 := HB2.out.size
        have HO2_10 : Hid (W10.ownsRow V.heap.size 9 1 (.slice A2 n c2) n (s.sent.map Value.string)) := by rw [hW]; exact HO2.out.alloc _
        clear hW hb
        refine anyL_one (i := 4) (o := { dst := some 33, op := Op.buildSlice 22 2 #[(0, Operand.const (Value.string { data := #[120] })), (1, Operand.const (Value.string { data := #[121] }))], type := 22, pos := "law.go:193", after := #[], guard := none }) (by kernel_rfl) rfl (fun K hK => ?_)
        go_simp
        refine hK.out _ _ ?_ ?_
        · exact fun _ => HS.out _ (HB10.out.alloc HB10.out.size _)
        clear hK K
        obtain ⟨W11, hW⟩ : ∃ W11, W11 = W10.alloc (.cells #[.string ⟨#[120]⟩, .string ⟨#[121]⟩] 9) := ⟨_, rfl⟩
        rw [← hW]
        obtain ⟨b11, hb⟩ : ∃ b11, b11 = W10.heap.size := ⟨_, rfl⟩
        rw [← hb]
        have HB11 : Hid (Below V.heap.size V W11) := by rw [hW]; exact HB10.out.alloc HB10.out.size _
        have HK11 : Hid (Bk W11 b11 9 #[.string ⟨#[120]⟩, .string ⟨#[121]⟩]) := by rw [hW, hb]; exact Bk.new _ _ _
        have hy11 : b11 < W11.heap.size := HK11.out.lt
        have hx11 : W10.heap.size ≤ b11 := by omega
        have hv11 := HB10.out.size
        have HO2_10_11 : Hid (W11.ownsRow V.heap.size 9 1 (.slice A2 n c2) n (s.sent.map Value.string)) := by rw [hW]; exact HO2_10.out.alloc _
        have HK10_11 : Hid (Bk W11 b10 24 #[.slice none 0 0, .int .i64 0, .int .i64 0]) := by rw [hW]; exact HK10.out.alloc _
        clear hW hb
        refine anyL_one (i := 5) (o := { dst := some 34, op := Op.call { callee := Callee.builtin Builtin.append, args := #[Operand.tmp 32, Operand.tmp 33], argTypes := #[22, 22] }, type := 22, pos := "law.go:193", after := #[{ on := 3, ground := Ground.data }, { on := 4, ground := Ground.data }, { on := 3, ground := Ground.chain }], guard := none }) (by kernel_rfl) rfl (fun K hK => ?_)
        refine step_append_rd _ (by rfl) (.tmp 32) (.tmp 33) _ (by rfl) V.heap.size 9 i0 _ 1 16 Try.underlying22 hi yz0 yz1 yz2 rfl (by omega) _ n (s.sent.map Value.string) (by rfl) HO2_10_11.out (b11 + 1) _ 2 2 [.string ⟨#[120]⟩, .string ⟨#[121]⟩] (by rfl) (rd_xy HK11.out) (by simp [Value.oneCell']) (by unfold maxLen; omega) (by omega) HB11.out.size ?_
        intro A12 c12 W12 hc12 hm12 hown hg hat
        have HB12 : Hid (Below V.heap.size V W12) := HB11.out.grown hg HB11.out.size (fun k hk => (HO2_10_11.out.lt k hk).1)
        have HO12 := Lib.hid hown
        have hj12 : (n : Int) ≤ (c12 : Int) := by omega
        have HK10_11_12 : Hid (Bk W12 b10 24 #[.slice none 0 0, .int .i64 0, .int .i64 0]) := HK10_11.out.grown hg (own_ne_bk HO2_10_11.out HK10_11.out (by decide))
        have hv12 := hg.size
        have hu12 := HB12.out.size
        clear hown hg hat
        simp only [Act.put, List.setIfInBounds_toArray, List.set_cons_zero, List.set_cons_succ]
        refine hK.out _ _ ?_ ?_
        · exact fun _ => HS.out _ HB12.out
        clear hK K
        refine anyL_take (i := 9) (oi := { dst := some 38, op := Op.slice 22 (Operand.tmp 34) none (some (Operand.tmp 37)) none, type := 22, pos := "law.go:193", after := #[{ on := 5, ground := Ground.data }, { on := 8, ground := Ground.data }], guard := none }) (v := ?_) rfl (by kernel_rfl) (by kernel_rfl) (by kernel_rfl) (by kernel_rfl) (fun _ _ _ h => h) (Or.inl ⟨by rfl, ?_⟩) (HS.out _ HB12.out) ?_
        rotate_left
        · intro w hSw
          try dsimp only at hSw
          obtain ⟨_, e1, e2, e3⟩ := hSw
          first | (go_simp <;> fail) | (go_simp; with_reducible rfl)
        simp only [Act.put, List.setIfInBounds_toArray, List.set_cons_zero, List.set_cons_succ]
        refine anyL_take (i := 14) (oi := { dst := some 43, op := Op.build 24 #[(0, Operand.tmp 38), (1, Operand.tmp 40), (2, Operand.tmp 42)], type := 24, pos := "law.go:193", after := #[{ on := 9, ground := Ground.data }, { on := 11, ground := Ground.data }, { on := 13, ground := Ground.data }], guard := none }) (v := ?_) rfl (by kernel_rfl) (by kernel_rfl) (by kernel_rfl) (by kernel_rfl) (fun _ _ _ h => h) (Or.inl ⟨by rfl, ?_⟩) (HS.out _ HB12.out) ?_
        rotate_left
        · intro w hSw
          try dsimp only at hSw
          obtain ⟨_, e1, e2, e3⟩ := hSw
          first | (go_simp <;> fail) | (go_simp; with_reducible rfl)
        simp only [Act.put, List.setIfInBounds_toArray, List.set_cons_zero, List.set_cons_succ]
        refine anyL_one (i := 16) (o := { dst := none, op := Op.store 24 (Operand.tmp 7) (Operand.tmp 43), type := 0, pos := "law.go:193", after := #[{ on := 15, ground := Ground.data }, { on := 14, ground := Ground.data }, { on := 5, ground := Ground.chain }, { on := 0, ground := Ground.phase }, { on := 1, ground := Ground.phase }, { on := 2, ground := Ground.phase }, { on := 3, ground := Ground.phase }, { on := 4, ground := Ground.phase }, { on := 5, ground := Ground.phase }, { on := 6, ground := Ground.phase }, { on := 7, ground := Ground.phase }, { on := 8, ground := Ground.phase }, { on := 9, ground := Ground.phase }, { on := 10, ground := Ground.phase }, { on := 11, ground := Ground.phase }, { on := 12, ground := Ground.phase }, { on := 13, ground := Ground.phase }, { on := 14, ground := Ground.phase }, { on := 15, ground := Ground.phase }], guard := none }) (by kernel_rfl) rfl (fun K hK => ?_)
        obtain ⟨q0, q1, q2, z0, z1, z2, hgg⟩ := HK10_11_12.out.three
        go_simp
        refine hK.out _ _ (fun h => absurd rfl h) ?_
        clear hK K
        refine anyL_done (by kernel_rfl) ?_ _
        refine NoPanic.normal ?_
        apply HN.out
        have hap := own_ne_bk HO12.out HK10_11_12.out (by decide)
        have hin : V.heap.size ≤ b10 := by omega
        exact ⟨b10, _, _, rfl, hin, set3_cells HK10_11_12.out _ _ _, by omega, by omega, ownsRow_setCell_other (ownsRow_setCell_other (ownsRow_setCell_other HO12.out (a := ⟨b10, 0, none⟩) hap.symm _) (a := ⟨b10, 1, none⟩) hap.symm _) (a := ⟨b10, 2, none⟩) hap.symm _, Below.setCell (Below.setCell (Below.setCell HB12.out (p := ⟨b10, 0, none⟩) hin _) (p := ⟨b10, 1, none⟩) hin _) (p := ⟨b10, 2, none⟩) hin _⟩
      exact AllL.nil
    refine AllL.cons (o := { dst := some 33, op := Op.buildSlice 22 2 #[(0, Operand.const (Value.string { data := #[120] })), (1, Operand.const (Value.string { data := #[121] }))], type := 22, pos := "law.go:193", after := #[], guard := none }) rfl (fun K hK => ?_) ?_
    · skip
      go_simp
      refine hK.out _ _ ?_ ?_
      · exact fun _ => HS.out _ (HB1.out.alloc HB1.out.size _)
      clear hK K
      obtain ⟨W14, hW⟩ : ∃ W14, W14 = W1.alloc (.cells #[.string ⟨#[120]⟩, .string ⟨#[121]⟩] 9) := ⟨_, rfl⟩
      rw [← hW]
      obtain ⟨b14, hb⟩ : ∃ b14, b14 = W1.heap.size := ⟨_, rfl⟩
      rw [← hb]
      have HB14 : Hid (Below V.heap.size V W14) := by rw [hW]; exact HB1.out.alloc HB1.out.size _
      have HK14 : Hid (Bk W14 b14 9 #[.string ⟨#[120]⟩, .string ⟨#[121]⟩]) := by rw [hW, hb]; exact Bk.new _ _ _
      have hy14 : b14 < W14.heap.size := HK14.out.lt
      have hx14 : W1.heap.size ≤ b14 := by omega
      have hv14 := HB1.out.size
      have HK1_14 : Hid (Bk W14 b1 9 #[]) := by rw [hW]; exact HK1.out.alloc _
      clear hW hb
      refine anyL_all (rs := [3, 15]) (by kernel_rfl) (by simp) ?_
      refine AllL.cons (o := { dst := some 32, op := Op.call { callee := Callee.builtin Builtin.append, args := #[Operand.tmp 29, Operand.tmp 31], argTypes := #[22, 22] }, type := 22, pos := "law.go:193", after := #[{ on := 0, ground := Ground.data }, { on := 2, ground := Ground.data }], guard := none }) rfl (fun K hK => ?_) ?_
      · skip
        refine step_append_rd _ (by rfl) (.tmp 29) (.tmp 31) _ (by rfl) V.heap.size 9 i0 _ 1 16 Try.underlying22 hi yz0 yz1 yz2 rfl (by omega) _ 0 [] (by rfl) (own_empty HK1_14.out (by omega)) V.heap.size A n c _ (by rfl) (HR.out.below HB14.out) (strs_one s.sent) (by unfold maxLen; omega) (by omega) HB14.out.size ?_
        intro A15 c15 W15 hc15 hm15 hown hg hat
        simp only [Nat.zero_add, List.nil_append] at hown hc15 ⊢
        have HB15 : Hid (Below V.heap.size V W15) := HB14.out.grown hg HB14.out.size (fun k hk => by have := Option.some.inj hk; simp at this; omega)
        have HO15 := Lib.hid hown
        have HK14_15 : Hid (Bk W15 b14 9 #[.string ⟨#[120]⟩, .string ⟨#[121]⟩]) := HK14.out.grown hg (by intro e; have := Option.some.inj e; simp at this; omega)
        have hv15 := hg.size
        have hu15 := HB15.out.size
        clear hown hg hat
        simp only [Act.put, List.setIfInBounds_toArray, List.set_cons_zero, List.set_cons_succ]
        refine hK.out _ _ ?_ ?_
        · exact fun _ => HS.out _ HB15.out
        clear hK K
        refine anyL_all (rs := [5, 15]) (by kernel_rfl) (by simp) ?_
        refine AllL.cons (o := { dst := some 34, op := Op.call { callee := Callee.builtin Builtin.append, args := #[Operand.tmp 32, Operand.tmp 33], argTypes := #[22, 22] }, type := 22, pos := "law.go:193", after := #[{ on := 3, ground := Ground.data }, { on := 4, ground := Ground.data }, { on := 3, ground := Ground.chain }], guard := none }) rfl (fun K hK => ?_) ?_
        · skip
          refine step_append_rd _ (by rfl) (.tmp 32) (.tmp 33) _ (by rfl) V.heap.size 9 i0 _ 1 16 Try.underlying22 hi yz0 yz1 yz2 rfl (by omega) _ n (s.sent.map Value.string) (by rfl) HO15.out (b14 + 1) _ 2 2 [.string ⟨#[120]⟩, .string ⟨#[121]⟩] (by rfl) (rd_xy HK14_15.out) (by simp [Value.oneCell']) (by unfold maxLen; omega) (by omega) HB15.out.size ?_
          intro A16 c16 W16 hc16 hm16 hown hg hat
          have HB16 : Hid (Below V.heap.size V W16) := HB15.out.grown hg HB15.out.size (fun k hk => (HO15.out.lt k hk).1)
          have HO16 := Lib.hid hown
          have hj16 : (n : Int) ≤ (c16 : Int) := by omega
          have hv16 := hg.size
          have hu16 := HB16.out.size
          clear hown hg hat
          simp only [Act.put, List.setIfInBounds_toArray, List.set_cons_zero, List.set_cons_succ]
          refine hK.out _ _ ?_ ?_
          · exact fun _ => HS.out _ HB16.out
          clear hK K
          refine anyL_take (i := 9) (oi := { dst := some 38, op := Op.slice 22 (Operand.tmp 34) none (some (Operand.tmp 37)) none, type := 22, pos := "law.go:193", after := #[{ on := 5, ground := Ground.data }, { on := 8, ground := Ground.data }], guard := none }) (v := ?_) rfl (by kernel_rfl) (by kernel_rfl) (by kernel_rfl) (by kernel_rfl) (fun _ _ _ h => h) (Or.inl ⟨by rfl, ?_⟩) (HS.out _ HB16.out) ?_
          rotate_left
          · intro w hSw
            try dsimp only at hSw
            obtain ⟨_, e1, e2, e3⟩ := hSw
            first | (go_simp <;> fail) | (go_simp; with_reducible rfl)
          simp only [Act.put, List.setIfInBounds_toArray, List.set_cons_zero, List.set_cons_succ]
          refine anyL_take (i := 14) (oi := { dst := some 43, op := Op.build 24 #[(0, Operand.tmp 38), (1, Operand.tmp 40), (2, Operand.tmp 42)], type := 24, pos := "law.go:193", after := #[{ on := 9, ground := Ground.data }, { on := 11, ground := Ground.data }, { on := 13, ground := Ground.data }], guard := none }) (v := ?_) rfl (by kernel_rfl) (by kernel_rfl) (by kernel_rfl) (by kernel_rfl) (fun _ _ _ h => h) (Or.inl ⟨by rfl, ?_⟩) (HS.out _ HB16.out) ?_
          rotate_left
          · intro w hSw
            try dsimp only at hSw
            obtain ⟨_, e1, e2, e3⟩ := hSw
            first | (go_simp <;> fail) | (go_simp; with_reducible rfl)
          simp only [Act.put, List.setIfInBounds_toArray, List.set_cons_zero, List.set_cons_succ]
          refine anyL_one (i := 15) (o := { dst := some 7, op := Op.alloc 24, type := 0, pos := "law.go:193", after := #[], guard := none }) (by kernel_rfl) rfl (fun K hK => ?_)
          go_simp
          refine hK.out _ _ ?_ ?_
          · exact fun _ => HS.out _ (HB16.out.alloc HB16.out.size _)
          clear hK K
          obtain ⟨W17, hW⟩ : ∃ W17, W17 = W16.alloc (.cells #[.slice none 0 0, .int .i64 0, .int .i64 0] 24) := ⟨_, rfl⟩
          rw [← hW]
          obtain ⟨b17, hb⟩ : ∃ b17, b17 = W16.heap.size := ⟨_, rfl⟩
          rw [← hb]
          have HB17 : Hid (Below V.heap.size V W17) := by rw [hW]; exact HB16.out.alloc HB16.out.size _
          have HK17 : Hid (Bk W17 b17 24 #[.slice none 0 0, .int .i64 0, .int .i64 0]) := by rw [hW, hb]; exact Bk.new _ _ _
          have hy17 : b17 < W17.heap.size := HK17.out.lt
          have hx17 : W16.heap.size ≤ b17 := by omega
          have hv17 := HB16.out.size
          have HO16_17 : Hid (W17.ownsRow V.heap.size 9 1 (.slice A16 (n + 2) c16) (n + 2) (s.sent.map Value.string ++ [.string ⟨#[120]⟩, .string ⟨#[121]⟩])) := by rw [hW]; exact HO16.out.alloc _
          clear hW hb
          refine anyL_one (i := 16) (o := { dst := none, op := Op.store 24 (Operand.tmp 7) (Operand.tmp 43), type := 0, pos := "law.go:193", after := #[{ on := 15, ground := Ground.data }, { on := 14, ground := Ground.data }, { on := 5, ground := Ground.chain }, { on := 0, ground := Ground.phase }, { on := 1, ground := Ground.phase }, { on := 2, ground := Ground.phase }, { on := 3, ground := Ground.phase }, { on := 4, ground := Ground.phase }, { on := 5, ground := Ground.phase }, { on := 6, ground := Ground.phase }, { on := 7, ground := Ground.phase }, { on := 8, ground := Ground.phase }, { on := 9, ground := Ground.phase }, { on := 10, ground := Ground.phase }, { on := 11, ground := Ground.phase }, { on := 12, ground := Ground.phase }, { on := 13, ground := Ground.phase }, { on := 14, ground := Ground.phase }, { on := 15, ground := Ground.phase }], guard := none }) (by kernel_rfl) rfl (fun K hK => ?_)
          obtain ⟨q0, q1, q2, z0, z1, z2, hgg⟩ := HK17.out.three
          go_simp
          refine hK.out _ _ (fun h => absurd rfl h) ?_
          clear hK K
          refine anyL_done (by kernel_rfl) ?_ _
          refine NoPanic.normal ?_
          apply HN.out
          have hap := own_ne_bk HO16_17.out HK17.out (by decide)
          have hin : V.heap.size ≤ b17 := by omega
          exact ⟨b17, _, _, rfl, hin, set3_cells HK17.out _ _ _, by omega, by omega, ownsRow_setCell_other (ownsRow_setCell_other (ownsRow_setCell_other HO16_17.out (a := ⟨b17, 0, none⟩) hap.symm _) (a := ⟨b17, 1, none⟩) hap.symm _) (a := ⟨b17, 2, none⟩) hap.symm _, Below.setCell (Below.setCell (Below.setCell HB17.out (p := ⟨b17, 0, none⟩) hin _) (p := ⟨b17, 1, none⟩) hin _) (p := ⟨b17, 2, none⟩) hin _⟩
        refine AllL.cons (o := { dst := some 7, op := Op.alloc 24, type := 0, pos := "law.go:193", after := #[], guard := none }) rfl (fun K hK => ?_) ?_
        · skip
          go_simp
          refine hK.out _ _ ?_ ?_
          · exact fun _ => HS.out _ (HB15.out.alloc HB15.out.size _)
          clear hK K
          obtain ⟨W19, hW⟩ : ∃ W19, W19 = W15.alloc (.cells #[.slice none 0 0, .int .i64 0, .int .i64 0] 24) := ⟨_, rfl⟩
          rw [← hW]
          obtain ⟨b19, hb⟩ : ∃ b19, b19 = W15.heap.size := ⟨_, rfl⟩
          rw [← hb]
          have HB19 : Hid (Below V.heap.size V W19) := by rw [hW]; exact HB15.out.alloc HB15.out.size _
          have HK19 : Hid (Bk W19 b19 24 #[.slice none 0 0, .int .i64 0, .int .i64 0]) := by rw [hW, hb]; exact Bk.new _ _ _
          have hy19 : b19 < W19.heap.size := HK19.out.lt
          have hx19 : W15.heap.size ≤ b19 := by omega
          have hv19 := HB15.out.size
          have HK14_15_19 : Hid (Bk W19 b14 9 #[.string ⟨#[120]⟩, .string ⟨#[121]⟩]) := by rw [hW]; exact HK14_15.out.alloc _
          have HO15_19 : Hid (W19.ownsRow V.heap.size 9 1 (.slice A15 n c15) n (s.sent.map Value.string)) := by rw [hW]; exact HO15.out.alloc _
          clear hW hb
          refine anyL_one (i := 5) (o := { dst := some 34, op := Op.call { callee := Callee.builtin Builtin.append, args := #[Operand.tmp 32, Operand.tmp 33], argTypes := #[22, 22] }, type := 22, pos := "law.go:193", after := #[{ on := 3, ground := Ground.data }, { on := 4, ground := Ground.data }, { on := 3, ground := Ground.chain }], guard := none }) (by kernel_rfl) rfl (fun K hK => ?_)
          refine step_append_rd _ (by rfl) (.tmp 32) (.tmp 33) _ (by rfl) V.heap.size 9 i0 _ 1 16 Try.underlying22 hi yz0 yz1 yz2 rfl (by omega) _ n (s.sent.map Value.string) (by rfl) HO15_19.out (b14 + 1) _ 2 2 [.string ⟨#[120]⟩, .string ⟨#[121]⟩] (by rfl) (rd_xy HK14_15_19.out) (by simp [Value.oneCell']) (by unfold maxLen; omega) (by omega) HB19.out.size ?_
          intro A20 c20 W20 hc20 hm20 hown hg hat
          have HB20 : Hid (Below V.heap.size V W20) := HB19.out.grown hg HB19.out.size (fun k hk => (HO15_19.out.lt k hk).1)
          have HO20 := Lib.hid hown
          have hj20 : (n : Int) ≤ (c20 : Int) := by omega
          have HK19_20 : Hid (Bk W20 b19 24 #[.slice none 0 0, .int .i64 0, .int .i64 0]) := HK19.out.grown hg (own_ne_bk HO15_19.out HK19.out (by decide))
          have hv20 := hg.size
          have hu20 := HB20.out.size
          clear hown hg hat
          simp only [Act.put, List.setIfInBounds_toArray, List.set_cons_zero, List.set_cons_succ]
          refine hK.out _ _ ?_ ?_
          · exact fun _ => HS.out _ HB20.out
          clear hK K
          refine anyL_take (i := 9) (oi := { dst := some 38, op := Op.slice 22 (Operand.tmp 34) none (some (Operand.tmp 37)) none, type := 22, pos := "law.go:193", after := #[{ on := 5, ground := Ground.data }, { on := 8, ground := Ground.data }], guard := none }) (v := ?_) rfl (by kernel_rfl) (by kernel_rfl) (by kernel_rfl) (by kernel_rfl) (fun _ _ _ h => h) (Or.inl ⟨by rfl, ?_⟩) (HS.out _ HB20.out) ?_
          rotate_left
          · intro w hSw
            try dsimp only at hSw
            obtain ⟨_, e1, e2, e3⟩ := hSw
            first | (go_simp <;> fail) | (go_simp; with_reducible rfl)
          simp only [Act.put, List.setIfInBounds_toArray, List.set_cons_zero, List.set_cons_succ]
          refine anyL_take (i := 14) (oi := { dst := some 43, op := Op.build 24 #[(0, Operand.tmp 38), (1, Operand.tmp 40), (2, Operand.tmp 42)], type := 24, pos := "law.go:193", after := #[{ on := 9, ground := Ground.data }, { on := 11, ground := Ground.data }, { on := 13, ground := Ground.data }], guard := none }) (v := ?_) rfl (by kernel_rfl) (by kernel_rfl) (by kernel_rfl) (by kernel_rfl) (fun _ _ _ h => h) (Or.inl ⟨by rfl, ?_⟩) (HS.out _ HB20.out) ?_
          rotate_left
          · intro w hSw
            try dsimp only at hSw
            obtain ⟨_, e1, e2, e3⟩ := hSw
            first | (go_simp <;> fail) | (go_simp; with_reducible rfl)
          simp only [Act.put, List.setIfInBounds_toArray, List.set_cons_zero, List.set_cons_succ]
          refine anyL_one (i := 16) (o := { dst := none, op := Op.store 24 (Operand.tmp 7) (Operand.tmp 43), type := 0, pos := "law.go:193", after := #[{ on := 15, ground := Ground.data }, { on := 14, ground := Ground.data }, { on := 5, ground := Ground.chain }, { on := 0, ground := Ground.phase }, { on := 1, ground := Ground.phase }, { on := 2, ground := Ground.phase }, { on := 3, ground := Ground.phase }, { on := 4, ground := Ground.phase }, { on := 5, ground := Ground.phase }, { on := 6, ground := Ground.phase }, { on := 7, ground := Ground.phase }, { on := 8, ground := Ground.phase }, { on := 9, ground := Ground.phase }, { on := 10, ground := Ground.phase }, { on := 11, ground := Ground.phase }, { on := 12, ground := Ground.phase }, { on := 13, ground := Ground.phase }, { on := 14, ground := Ground.phase }, { on := 15, ground := Ground.phase }], guard := none }) (by kernel_rfl) rfl (fun K hK => ?_)
          obtain ⟨q0, q1, q2, z0, z1, z2, hgg⟩ := HK19_20.out.three
          go_simp
          refine hK.out _ _ (fun h => absurd rfl h) ?_
          clear hK K
          refine anyL_done (by kernel_rfl) ?_ _
          refine NoPanic.normal ?_
          apply HN.out
          have hap := own_ne_bk HO20.out HK19_20.out (by decide)
          have hin : V.heap.size ≤ b19 := by omega
          exact ⟨b19, _, _, rfl, hin, set3_cells HK19_20.out _ _ _, by omega, by omega, ownsRow_setCell_other (ownsRow_setCell_other (ownsRow_setCell_other HO20.out (a := ⟨b19, 0, none⟩) hap.symm _) (a := ⟨b19, 1, none⟩) hap.symm _) (a := ⟨b19, 2, none⟩) hap.symm _, Below.setCell (Below.setCell (Below.setCell HB20.out (p := ⟨b19, 0, none⟩) hin _) (p := ⟨b19, 1, none⟩) hin _) (p := ⟨b19, 2, none⟩) hin _⟩
        exact AllL.nil
      refine AllL.cons (o := { dst := some 7, op := Op.alloc 24, type := 0, pos := "law.go:193", after := #[], guard := none }) rfl (fun K hK => ?_) ?_
      · skip
        go_simp
        refine hK.out _ _ ?_ ?_
        · exact fun _ => HS.out _ (HB14.out.alloc HB14.out.size _)
        clear hK K
        obtain ⟨W22, hW⟩ : ∃ W22, W22 = W14.alloc (.cells #[.slice none 0 0, .int .i64 0, .int .i64 0] 24) := ⟨_, rfl⟩
        rw [← hW]
        obtain ⟨b22, hb⟩ : ∃ b22, b22 = W14.heap.size := ⟨_, rfl⟩
        rw [← hb]
        have HB22 : Hid (Below V.heap.size V W22) := by rw [hW]; exact HB14.out.alloc HB14.out.size _
        have HK22 : Hid (Bk W22 b22 24 #[.slice none 0 0, .int .i64 0, .int .i64 0]) := by rw [hW, hb]; exact Bk.new _ _ _
        have hy22 : b22 < W22.heap.size := HK22.out.lt
        have hx22 : W14.heap.size ≤ b22 := by omega
        have hv22 := HB14.out.size
        have HK1_14_22 : Hid (Bk W22 b1 9 #[]) := by rw [hW]; exact HK1_14.out.alloc _
        have HK14_22 : Hid (Bk W22 b14 9 #[.string ⟨#[120]⟩, .string ⟨#[121]⟩]) := by rw [hW]; exact HK14.out.alloc _
        clear hW hb
        refine anyL_one (i := 3) (o := { dst := some 32, op := Op.call { callee := Callee.builtin Builtin.append, args := #[Operand.tmp 29, Operand.tmp 31], argTypes := #[22, 22] }, type := 22, pos := "law.go:193", after := #[{ on := 0, ground := Ground.data }, { on := 2, ground := Ground.data }], guard := none }) (by kernel_rfl) rfl (fun K hK => ?_)
        refine step_append_rd _ (by rfl) (.tmp 29) (.tmp 31) _ (by rfl) V.heap.size 9 i0 _ 1 16 Try.underlying22 hi yz0 yz1 yz2 rfl (by omega) _ 0 [] (by rfl) (own_empty HK1_14_22.out (by omega)) V.heap.size A n c _ (by rfl) (HR.out.below HB22.out) (strs_one s.sent) (by unfold maxLen; omega) (by omega) HB22.out.size ?_
        intro A23 c23 W23 hc23 hm23 hown hg hat
        simp only [Nat.zero_add, List.nil_append] at hown hc23 ⊢
        have HB23 : Hid (Below V.heap.size V W23) := HB22.out.grown hg HB22.out.size (fun k hk => by have := Option.some.inj hk; simp at this; omega)
        have HO23 := Lib.hid hown
        have HK14_22_23 : Hid (Bk W23 b14 9 #[.string ⟨#[120]⟩, .string ⟨#[121]⟩]) := HK14_22.out.grown hg (by intro e; have := Option.some.inj e; simp at this; omega)
        have HK22_23 : Hid (Bk W23 b22 24 #[.slice none 0 0, .int .i64 0, .int .i64 0]) := HK22.out.grown hg (by intro e; have := Option.some.inj e; simp at this; omega)
        have hv23 := hg.size
        have hu23 := HB23.out.size
        clear hown hg hat
        simp only [Act.put, List.setIfInBounds_toArray, List.set_cons_zero, List.set_cons_succ]
        refine hK.out _ _ ?_ ?_
        · exact fun _ => HS.out _ HB23.out
        clear hK K
        refine anyL_one (i := 5) (o := { dst := some 34, op := Op.call { callee := Callee.builtin Builtin.append, args := #[Operand.tmp 32, Operand.tmp 33], argTypes := #[22, 22] }, type := 22, pos := "law.go:193", after := #[{ on := 3, ground := Ground.data }, { on := 4, ground := Ground.data }, { on := 3, ground := Ground.chain }], guard := none }) (by kernel_rfl) rfl (fun K hK => ?_)
        refine step_append_rd _ (by rfl) (.tmp 32) (.tmp 33) _ (by rfl) V.heap.size 9 i0 _ 1 16 Try.underlying22 hi yz0 yz1 yz2 rfl (by omega) _ n (s.sent.map Value.string) (by rfl) HO23.out (b14 + 1) _ 2 2 [.string ⟨#[120]⟩, .string ⟨#[121]⟩] (by rfl) (rd_xy HK14_22_23.out) (by simp [Value.oneCell']) (by unfold maxLen; omega) (by omega) HB23.out.size ?_
        intro A24 c24 W24 hc24 hm24 hown hg hat
        have HB24 : Hid (Below V.heap.size V W24) := HB23.out.grown hg HB23.out.size (fun k hk => (HO23.out.lt k hk).1)
        have HO24 := Lib.hid hown
        have hj24 : (n : Int) ≤ (c24 : Int) := by omega
        have HK22_23_24 : Hid (Bk W24 b22 24 #[.slice none 0 0, .int .i64 0, .int .i64 0]) := HK22_23.out.grown hg (own_ne_bk HO23.out HK22_23.out (by decide))
        have hv24 := hg.size
        have hu24 := HB24.out.size
        clear hown hg hat
        simp only [Act.put, List.setIfInBounds_toArray, List.set_cons_zero, List.set_cons_succ]
        refine hK.out _ _ ?_ ?_
        · exact fun _ => HS.out _ HB24.out
        clear hK K
        refine anyL_take (i := 9) (oi := { dst := some 38, op := Op.slice 22 (Operand.tmp 34) none (some (Operand.tmp 37)) none, type := 22, pos := "law.go:193", after := #[{ on := 5, ground := Ground.data }, { on := 8, ground := Ground.data }], guard := none }) (v := ?_) rfl (by kernel_rfl) (by kernel_rfl) (by kernel_rfl) (by kernel_rfl) (fun _ _ _ h => h) (Or.inl ⟨by rfl, ?_⟩) (HS.out _ HB24.out) ?_
        rotate_left
        · intro w hSw
          try dsimp only at hSw
          obtain ⟨_, e1, e2, e3⟩ := hSw
          first | (go_simp <;> fail) | (go_simp; with_reducible rfl)
        simp only [Act.put, List.setIfInBounds_toArray, List.set_cons_zero, List.set_cons_succ]
        refine anyL_take (i := 14) (oi := { dst := some 43, op := Op.build 24 #[(0, Operand.tmp 38), (1, Operand.tmp 40), (2, Operand.tmp 42)], type := 24, pos := "law.go:193", after := #[{ on := 9, ground := Ground.data }, { on := 11, ground := Ground.data }, { on := 13, ground := Ground.data }], guard := none }) (v := ?_) rfl (by kernel_rfl) (by kernel_rfl) (by kernel_rfl) (by kernel_rfl) (fun _ _ _ h => h) (Or.inl ⟨by rfl, ?_⟩) (HS.out _ HB24.out) ?_
        rotate_left
        · intro w hSw
          try dsimp only at hSw
          obtain ⟨_, e1, e2, e3⟩ := hSw
          first | (go_simp <;> fail) | (go_simp; with_reducible rfl)
        simp only [Act.put, List.setIfInBounds_toArray, List.set_cons_zero, List.set_cons_succ]
        refine anyL_one (i := 16) (o := { dst := none, op := Op.store 24 (Operand.tmp 7) (Operand.tmp 43), type := 0, pos := "law.go:193", after := #[{ on := 15, ground := Ground.data }, { on := 14, ground := Ground.data }, { on := 5, ground := Ground.chain }, { on := 0, ground := Ground.phase }, { on := 1, ground := Ground.phase }, { on := 2, ground := Ground.phase }, { on := 3, ground := Ground.phase }, { on := 4, ground := Ground.phase }, { on := 5, ground := Ground.phase }, { on := 6, ground := Ground.phase }, { on := 7, ground := Ground.phase }, { on := 8, ground := Ground.phase }, { on := 9, ground := Ground.phase }, { on := 10, ground := Ground.phase }, { on := 11, ground := Ground.phase }, { on := 12, ground := Ground.phase }, { on := 13, ground := Ground.phase }, { on := 14, ground := Ground.phase }, { on := 15, ground := Ground.phase }], guard := none }) (by kernel_rfl) rfl (fun K hK => ?_)
        obtain ⟨q0, q1, q2, z0, z1, z2, hgg⟩ := HK22_23_24.out.three
        go_simp
        refine hK.out _ _ (fun h => absurd rfl h) ?_
        clear hK K
        refine anyL_done (by kernel_rfl) ?_ _
        refine NoPanic.normal ?_
        apply HN.out
        have hap := own_ne_bk HO24.out HK22_23_24.out (by decide)
        have hin : V.heap.size ≤ b22 := by omega
        exact ⟨b22, _, _, rfl, hin, set3_cells HK22_23_24.out _ _ _, by omega, by omega, ownsRow_setCell_other (ownsRow_setCell_other (ownsRow_setCell_other HO24.out (a := ⟨b22, 0, none⟩) hap.symm _) (a := ⟨b22, 1, none⟩) hap.symm _) (a := ⟨b22, 2, none⟩) hap.symm _, Below.setCell (Below.setCell (Below.setCell HB24.out (p := ⟨b22, 0, none⟩) hin _) (p := ⟨b22, 1, none⟩) hin _) (p := ⟨b22, 2, none⟩) hin _⟩
      exact AllL.nil
    refine AllL.cons (o := { dst := some 7, op := Op.alloc 24, type := 0, pos := "law.go:193", after := #[], guard := none }) rfl (fun K hK => ?_) ?_
    · skip
      go_simp
      refine hK.out _ _ ?_ ?_
      · exact fun _ => HS.out _ (HB1.out.alloc HB1.out.size _)
      clear hK K
      obtain ⟨W26, hW⟩ : ∃ W26, W26 = W1.alloc (.cells #[.slice none 0 0, .int .i64 0, .int .i64 0] 24) := ⟨_, rfl⟩
      rw [← hW]
      obtain ⟨b26, hb⟩ : ∃ b26, b26 = W1.heap.size := ⟨_, rfl⟩
      rw [← hb]
      have HB26 : Hid (Below V.heap.size V W26) := by rw [hW]; exact HB1.out.alloc HB1.out.size _
      have HK26 : Hid (Bk W26 b26 24 #[.slice none 0 0, .int .i64 0, .int .i64 0]) := by rw [hW, hb]; exact Bk.new _ _ _
      have hy26 : b26 < W26.heap.size := HK26.out.lt
      have hx26 : W1.heap.size ≤ b26 := by omega
      have hv26 := HB1.out.size
      have HK1_26 : Hid (Bk W26 b1 9 #[]) := by rw [hW]; exact HK1.out.alloc _
      clear hW hb
      refine anyL_all (rs := [3, 4]) (by kernel_rfl) (by simp) ?_
      refine AllL.cons (o := { dst := some 32, op := Op.call { callee := Callee.builtin Builtin.append, args := #[Operand.tmp 29, Operand.tmp 31], argTypes := #[22, 22] }, type := 22, pos := "law.go:193", after := #[{ on := 0, ground := Ground.data }, { on := 2, ground := Ground.data }], guard := none }) rfl (fun K hK => ?_) ?_
      · skip
        refine step_append_rd _ (by rfl) (.tmp 29) (.tmp 31) _ (by rfl) V.heap.size 9 i0 _ 1 16 Try.underlying22 hi yz0 yz1 yz2 rfl (by omega) _ 0 [] (by rfl) (own_empty HK1_26.out (by omega)) V.heap.size A n c _ (by rfl) (HR.out.below HB26.out) (strs_one s.sent) (by unfold maxLen; omega) (by omega) HB26.out.size ?_
        intro A27 c27 W27 hc27 hm27 hown hg hat
        simp only [Nat.zero_add, List.nil_append] at hown hc27 ⊢
        have HB27 : Hid (Below V.heap.size V W27) := HB26.out.grown hg HB26.out.size (fun k hk => by have := Option.some.inj hk; simp at this; omega)
        have HO27 := Lib.hid hown
        have HK26_27 : Hid (Bk W27 b26 24 #[.slice none 0 0, .int .i64 0, .int .i64 0]) := HK26.out.grown hg (by intro e; have := Option.some.inj e; simp at this; omega)
        have hv27 := hg.size
        have hu27 := HB27.out.size
        clear hown hg hat
        simp only [Act.put, List.setIfInBounds_toArray, List.set_cons_zero, List.set_cons_succ]
        refine hK.out _ _ ?_ ?_
        · exact fun _ => HS.out _ HB27.out
        clear hK K
        refine anyL_one (i := 4) (o := { dst := some 33, op := Op.buildSlice 22 2 #[(0, Operand.const (Value.string { data := #[120] })), (1, Operand.const (Value.string { data := #[121] }))], type := 22, pos := "law.go:193", after := #[], guard := none }) (by kernel_rfl) rfl (fun K hK => ?_)
        go_simp
        refine hK.out _ _ ?_ ?_
        · exact fun _ => HS.out _ (HB27.out.alloc HB27.out.size _)
        clear hK K
        obtain ⟨W28, hW⟩ : ∃ W28, W28 = W27.alloc (.cells #[.string ⟨#[120]⟩, .string ⟨#[121]⟩] 9) := ⟨_, rfl⟩
        rw [← hW]
        obtain ⟨b28, hb⟩ : ∃ b28, b28 = W27.heap.size := ⟨_, rfl⟩
        rw [← hb]
        have HB28 : Hid (Below V.heap.size V W28) := by rw [hW]; exact HB27.out.alloc HB27.out.size _
        have HK28 : Hid (Bk W28 b28 9 #[.string ⟨#[120]⟩, .string ⟨#[121]⟩]) := by rw [hW, hb]; exact Bk.new _ _ _
        have hy28 : b28 < W28.heap.size := HK28.out.lt
        have hx28 : W27.heap.size ≤ b28 := by omega
        have hv28 := HB27.out.size
        have HK26_27_28 : Hid (Bk W28 b26 24 #[.slice none 0 0, .int .i64 0, .int .i64 0]) := by rw [hW]; exact HK26_27.out.alloc _
        have HO27_28 : Hid (W28.ownsRow V.heap.size 9 1 (.slice A27 n c27) n (s.sent.map Value.string)) := by rw [hW]; exact HO27.out.alloc _
        clear hW hb
        refine anyL_one (i := 5) (o := { dst := some 34, op := Op.call { callee := Callee.builtin Builtin.append, args := #[Operand.tmp 32, Operand.tmp 33], argTypes := #[22, 22] }, type := 22, pos := "law.go:193", after := #[{ on := 3, ground := Ground.data }, { on := 4, ground := Ground.data }, { on := 3, ground := Ground.chain }], guard := none }) (by kernel_rfl) rfl (fun K hK => ?_)
        refine step_append_rd _ (by rfl) (.tmp 32) (.tmp 33) _ (by rfl) V.heap.size 9 i0 _ 1 16 Try.underlying22 hi yz0 yz1 yz2 rfl (by omega) _ n (s.sent.map Value.string) (by rfl) HO27_28.out (b28 + 1) _ 2 2 [.string ⟨#[120]⟩, .string ⟨#[121]⟩] (by rfl) (rd_xy HK28.out) (by simp [Value.oneCell']) (by unfold maxLen; omega) (by omega) HB28.out.size ?_
        intro A29 c29 W29 hc29 hm29 hown hg hat
        have HB29 : Hid (Below V.heap.size V W29) := HB28.out.grown hg HB28.out.size (fun k hk => (HO27_28.out.lt k hk).1)
        have HO29 := Lib.hid hown
        have hj29 : (n : Int) ≤ (c29 : Int) := by omega
        have HK26_27_28_29 : Hid (Bk W29 b26 24 #[.slice none 0 0, .int .i64 0, .int .i64 0]) := HK26_27_28.out.grown hg (own_ne_bk HO27_28.out HK26_27_28.out (by decide))
        have hv29 := hg.size
        have hu29 := HB29.out.size
        clear hown hg hat
        simp only [Act.put, List.setIfInBounds_toArray, List.set_cons_zero, List.set_cons_succ]
        refine hK.out _ _ ?_ ?_
        · exact fun _ => HS.out _ HB29.out
        clear hK K
        refine anyL_take (i := 9) (oi := { dst := some 38, op := Op.slice 22 (Operand.tmp 34) none (some (Operand.tmp 37)) none, type := 22, pos := "law.go:193", after := #[{ on := 5, ground := Ground.data }, { on := 8, ground := Ground.data }], guard := none }) (v := ?_) rfl (by kernel_rfl) (by kernel_rfl) (by kernel_rfl) (by kernel_rfl) (fun _ _ _ h => h) (Or.inl ⟨by rfl, ?_⟩) (HS.out _ HB29.out) ?_
        rotate_left
        · intro w hSw
          try dsimp only at hSw
          obtain ⟨_, e1, e2, e3⟩ := hSw
          first | (go_simp <;> fail) | (go_simp; with_reducible rfl)
        simp only [Act.put, List.setIfInBounds_toArray, List.set_cons_zero, List.set_cons_succ]
        refine anyL_take (i := 14) (oi := { dst := some 43, op := Op.build 24 #[(0, Operand.tmp 38), (1, Operand.tmp 40), (2, Operand.tmp 42)], type := 24, pos := "law.go:193", after := #[{ on := 9, ground := Ground.data }, { on := 11, ground := Ground.data }, { on := 13, ground := Ground.data }], guard := none }) (v := ?_) rfl (by kernel_rfl) (by kernel_rfl) (by kernel_rfl) (by kernel_rfl) (fun _ _ _ h => h) (Or.inl ⟨by rfl, ?_⟩) (HS.out _ HB29.out) ?_
        rotate_left
        · intro w hSw
          try dsimp only at hSw
          obtain ⟨_, e1, e2, e3⟩ := hSw
          first | (go_simp <;> fail) | (go_simp; with_reducible rfl)
        simp only [Act.put, List.setIfInBounds_toArray, List.set_cons_zero, List.set_cons_succ]
        refine anyL_one (i := 16) (o := { dst := none, op := Op.store 24 (Operand.tmp 7) (Operand.tmp 43), type := 0, pos := "law.go:193", after := #[{ on := 15, ground := Ground.data }, { on := 14, ground := Ground.data }, { on := 5, ground := Ground.chain }, { on := 0, ground := Ground.phase }, { on := 1, ground := Ground.phase }, { on := 2, ground := Ground.phase }, { on := 3, ground := Ground.phase }, { on := 4, ground := Ground.phase }, { on := 5, ground := Ground.phase }, { on := 6, ground := Ground.phase }, { on := 7, ground := Ground.phase }, { on := 8, ground := Ground.phase }, { on := 9, ground := Ground.phase }, { on := 10, ground := Ground.phase }, { on := 11, ground := Ground.phase }, { on := 12, ground := Ground.phase }, { on := 13, ground := Ground.phase }, { on := 14, ground := Ground.phase }, { on := 15, ground := Ground.phase }], guard := none }) (by kernel_rfl) rfl (fun K hK => ?_)
        obtain ⟨q0, q1, q2, z0, z1, z2, hgg⟩ := HK26_27_28_29.out.three
        go_simp
        refine hK.out _ _ (fun h => absurd rfl h) ?_
        clear hK K
        refine anyL_done (by kernel_rfl) ?_ _
        refine NoPanic.normal ?_
        apply HN.out
        have hap := own_ne_bk HO29.out HK26_27_28_29.out (by decide)
        have hin : V.heap.size ≤ b26 := by omega
        exact ⟨b26, _, _, rfl, hin, set3_cells HK26_27_28_29.out _ _ _, by omega, by omega, ownsRow_setCell_other (ownsRow_setCell_other (ownsRow_setCell_other HO29.out (a := ⟨b26, 0, none⟩) hap.symm _) (a := ⟨b26, 1, none⟩) hap.symm _) (a := ⟨b26, 2, none⟩) hap.symm _, Below.setCell (Below.setCell (Below.setCell HB29.out (p := ⟨b26, 0, none⟩) hin _) (p := ⟨b26, 1, none⟩) hin _) (p := ⟨b26, 2, none⟩) hin _⟩
      refine AllL.cons (o := { dst := some 33, op := Op.buildSlice 22 2 #[(0, Operand.const (Value.string { data := #[120] })), (1, Operand.const (Value.string { data := #[121] }))], type := 22, pos := "law.go:193", after := #[], guard := none }) rfl (fun K hK => ?_) ?_
      · skip
        go_simp
        refine hK.out _ _ ?_ ?_
        · exact fun _ => HS.out _ (HB26.out.alloc HB26.out.size _)
        clear hK K
        obtain ⟨W31, hW⟩ : ∃ W31, W31 = W26.alloc (.cells #[.string ⟨#[120]⟩, .string ⟨#[121]⟩] 9) := ⟨_, rfl⟩
        rw [← hW]
        obtain ⟨b31, hb⟩ : ∃ b31, b31 = W26.heap.size := ⟨_, rfl⟩
        rw [← hb]
        have HB31 : Hid (Below V.heap.size V W31) := by rw [hW]; exact HB26.out.alloc HB26.out.size _
        have HK31 : Hid (Bk W31 b31 9 #[.string ⟨#[120]⟩, .string ⟨#[121]⟩]) := by rw [hW, hb]; exact Bk.new _ _ _
        have hy31 : b31 < W31.heap.size := HK31.out.lt
        have hx31 : W26.heap.size ≤ b31 := by omega
        have hv31 := HB26.out.size
        have HK1_26_31 : Hid (Bk W31 b1 9 #[]) := by rw [hW]; exact HK1_26.out.alloc _
        have HK26_31 : Hid (Bk W31 b26 24 #[.slice none 0 0, .int .i64 0, .int .i64 0]) := by rw [hW]; exact HK26.out.alloc _
        clear hW hb
        refine anyL_one (i := 3) (o := { dst := some 32, op := Op.call { callee := Callee.builtin Builtin.append, args := #[Operand.tmp 29, Operand.tmp 31], argTypes := #[22, 22] }, type := 22, pos := "law.go:193", after := #[{ on := 0, ground := Ground.data }, { on := 2, ground := Ground.data }], guard := none }) (by kernel_rfl) rfl (fun K hK => ?_)
        refine step_append_rd _ (by rfl) (.tmp 29) (.tmp 31) _ (by rfl) V.heap.size 9 i0 _ 1 16 Try.underlying22 hi yz0 yz1 yz2 rfl (by omega) _ 0 [] (by rfl) (own_empty HK1_26_31.out (by omega)) V.heap.size A n c _ (by rfl) (HR.out.below HB31.out) (strs_one s.sent) (by unfold maxLen; omega) (by omega) HB31.out.size ?_
        intro A32 c32 W32 hc32 hm32 hown hg hat
        simp only [Nat.zero_add, List.nil_append] at hown hc32 ⊢
        have HB32 : Hid (Below V.heap.size V W32) := HB31.out.grown hg HB31.out.size (fun k hk => by have := Option.some.inj hk; simp at this; omega)
        have HO32 := Lib.hid hown
        have HK31_32 : Hid (Bk W32 b31 9 #[.string ⟨#[120]⟩, .string ⟨#[121]⟩]) := HK31.out.grown hg (by intro e; have := Option.some.inj e; simp at this; omega)
        have HK26_31_32 : Hid (Bk W32 b26 24 #[.slice none 0 0, .int .i64 0, .int .i64 0]) := HK26_31.out.grown hg (by intro e; have := Option.some.inj e; simp at this; omega)
        have hv32 := hg.size
        have hu32 := HB32.out.size
        clear hown hg hat
        simp only [Act.put, List.setIfInBounds_toArray, List.set_cons_zero, List.set_cons_succ]
        refine hK.out _ _ ?_ ?_
        · exact fun _ => HS.out _ HB32.out
        clear hK K
        refine anyL_one (i := 5) (o := { dst := some 34, op := Op.call { callee := Callee.builtin Builtin.append, args := #[Operand.tmp 32, Operand.tmp 33], argTypes := #[22, 22] }, type := 22, pos := "law.go:193", after := #[{ on := 3, ground := Ground.data }, { on := 4, ground := Ground.data }, { on := 3, ground := Ground.chain }], guard := none }) (by kernel_rfl) rfl (fun K hK => ?_)
        refine step_append_rd _ (by rfl) (.tmp 32) (.tmp 33) _ (by rfl) V.heap.size 9 i0 _ 1 16 Try.underlying22 hi yz0 yz1 yz2 rfl (by omega) _ n (s.sent.map Value.string) (by rfl) HO32.out (b31 + 1) _ 2 2 [.string ⟨#[120]⟩, .string ⟨#[121]⟩] (by rfl) (rd_xy HK31_32.out) (by simp [Value.oneCell']) (by unfold maxLen; omega) (by omega) HB32.out.size ?_
        intro A33 c33 W33 hc33 hm33 hown hg hat
        have HB33 : Hid (Below V.heap.size V W33) := HB32.out.grown hg HB32.out.size (fun k hk => (HO32.out.lt k hk).1)
        have HO33 := Lib.hid hown
        have hj33 : (n : Int) ≤ (c33 : Int) := by omega
        have HK26_31_32_33 : Hid (Bk W33 b26 24 #[.slice none 0 0, .int .i64 0, .int .i64 0]) := HK26_31_32.out.grown hg (own_ne_bk HO32.out HK26_31_32.out (by decide))
        have hv33 := hg.size
        have hu33 := HB33.out.size
        clear hown hg hat
        simp only [Act.put, List.setIfInBounds_toArray, List.set_cons_zero, List.set_cons_succ]
        refine hK.out _ _ ?_ ?_
        · exact fun _ => HS.out _ HB33.out
        clear hK K
        refine anyL_take (i := 9) (oi := { dst := some 38, op := Op.slice 22 (Operand.tmp 34) none (some (Operand.tmp 37)) none, type := 22, pos := "law.go:193", after := #[{ on := 5, ground := Ground.data }, { on := 8, ground := Ground.data }], guard := none }) (v := ?_) rfl (by kernel_rfl) (by kernel_rfl) (by kernel_rfl) (by kernel_rfl) (fun _ _ _ h => h) (Or.inl ⟨by rfl, ?_⟩) (HS.out _ HB33.out) ?_
        rotate_left
        · intro w hSw
          try dsimp only at hSw
          obtain ⟨_, e1, e2, e3⟩ := hSw
          first | (go_simp <;> fail) | (go_simp; with_reducible rfl)
        simp only [Act.put, List.setIfInBounds_toArray, List.set_cons_zero, List.set_cons_succ]
        refine anyL_take (i := 14) (oi := { dst := some 43, op := Op.build 24 #[(0, Operand.tmp 38), (1, Operand.tmp 40), (2, Operand.tmp 42)], type := 24, pos := "law.go:193", after := #[{ on := 9, ground := Ground.data }, { on := 11, ground := Ground.data }, { on := 13, ground := Ground.data }], guard := none }) (v := ?_) rfl (by kernel_rfl) (by kernel_rfl) (by kernel_rfl) (by kernel_rfl) (fun _ _ _ h => h) (Or.inl ⟨by rfl, ?_⟩) (HS.out _ HB33.out) ?_
        rotate_left
        · intro w hSw
          try dsimp only at hSw
          obtain ⟨_, e1, e2, e3⟩ := hSw
          first | (go_simp <;> fail) | (go_simp; with_reducible rfl)
        simp only [Act.put, List.setIfInBounds_toArray, List.set_cons_zero, List.set_cons_succ]
        refine anyL_one (i := 16) (o := { dst := none, op := Op.store 24 (Operand.tmp 7) (Operand.tmp 43), type := 0, pos := "law.go:193", after := #[{ on := 15, ground := Ground.data }, { on := 14, ground := Ground.data }, { on := 5, ground := Ground.chain }, { on := 0, ground := Ground.phase }, { on := 1, ground := Ground.phase }, { on := 2, ground := Ground.phase }, { on := 3, ground := Ground.phase }, { on := 4, ground := Ground.phase }, { on := 5, ground := Ground.phase }, { on := 6, ground := Ground.phase }, { on := 7, ground := Ground.phase }, { on := 8, ground := Ground.phase }, { on := 9, ground := Ground.phase }, { on := 10, ground := Ground.phase }, { on := 11, ground := Ground.phase }, { on := 12, ground := Ground.phase }, { on := 13, ground := Ground.phase }, { on := 14, ground := Ground.phase }, { on := 15, ground := Ground.phase }], guard := none }) (by kernel_rfl) rfl (fun K hK => ?_)
        obtain ⟨q0, q1, q2, z0, z1, z2, hgg⟩ := HK26_31_32_33.out.three
        go_simp
        refine hK.out _ _ (fun h => absurd rfl h) ?_
        clear hK K
        refine anyL_done (by kernel_rfl) ?_ _
        refine NoPanic.normal ?_
        apply HN.out
        have hap := own_ne_bk HO33.out HK26_31_32_33.out (by decide)
        have hin : V.heap.size ≤ b26 := by omega
        exact ⟨b26, _, _, rfl, hin, set3_cells HK26_31_32_33.out _ _ _, by omega, by omega, ownsRow_setCell_other (ownsRow_setCell_other (ownsRow_setCell_other HO33.out (a := ⟨b26, 0, none⟩) hap.symm _) (a := ⟨b26, 1, none⟩) hap.symm _) (a := ⟨b26, 2, none⟩) hap.symm _, Below.setCell (Below.setCell (Below.setCell HB33.out (p := ⟨b26, 0, none⟩) hin _) (p := ⟨b26, 1, none⟩) hin _) (p := ⟨b26, 2, none⟩) hin _⟩
      exact AllL.nil
    exact AllL.nil
  refine AllL.cons (o := { dst := some 33, op := Op.buildSlice 22 2 #[(0, Operand.const (Value.string { data := #[120] })), (1, Operand.const (Value.string { data := #[121] }))], type := 22, pos := "law.go:193", after := #[], guard := none }) rfl (fun K hK => ?_) ?_
  · skip
    go_simp
    refine hK.out _ _ ?_ ?_
    · exact fun _ => HS.out _ (HB0.out.alloc HB0.out.size _)
    clear hK K
    obtain ⟨W35, hW⟩ : ∃ W35, W35 = W0.alloc (.cells #[.string ⟨#[120]⟩, .string ⟨#[121]⟩] 9) := ⟨_, rfl⟩
    rw [← hW]
    obtain ⟨b35, hb⟩ : ∃ b35, b35 = W0.heap.size := ⟨_, rfl⟩
    rw [← hb]
    have HB35 : Hid (Below V.heap.size V W35) := by rw [hW]; exact HB0.out.alloc HB0.out.size _
    have HK35 : Hid (Bk W35 b35 9 #[.string ⟨#[120]⟩, .string ⟨#[121]⟩]) := by rw [hW, hb]; exact Bk.new _ _ _
    have hy35 : b35 < W35.heap.size := HK35.out.lt
    have hx35 : W0.heap.size ≤ b35 := by omega
    have hv35 := HB0.out.size
    clear hW hb
    refine anyL_all (rs := [0, 15]) (by kernel_rfl) (by simp) ?_
    refine AllL.cons (o := { dst := some 29, op := Op.buildSlice 22 0 #[], type := 22, pos := "law.go:193", after := #[], guard := none }) rfl (fun K hK => ?_) ?_
    · skip
      go_simp
      refine hK.out _ _ ?_ ?_
      · exact fun _ => HS.out _ (HB35.out.alloc HB35.out.size _)
      clear hK K
      obtain ⟨W36, hW⟩ : ∃ W36, W36 = W35.alloc (.cells #[] 9) := ⟨_, rfl⟩
      rw [← hW]
      obtain ⟨b36, hb⟩ : ∃ b36, b36 = W35.heap.size := ⟨_, rfl⟩
      rw [← hb]
      have HB36 : Hid (Below V.heap.size V W36) := by rw [hW]; exact HB35.out.alloc HB35.out.size _
      have HK36 : Hid (Bk W36 b36 9 #[]) := by rw [hW, hb]; exact Bk.new _ _ _
      have hy36 : b36 < W36.heap.size := HK36.out.lt
      have hx36 : W35.heap.size ≤ b36 := by omega
      have hv36 := HB35.out.size
      have HK35_36 : Hid (Bk W36 b35 9 #[.string ⟨#[120]⟩, .string ⟨#[121]⟩]) := by rw [hW]; exact HK35.out.alloc _
      clear hW hb
      refine anyL_all (rs := [3, 15]) (by kernel_rfl) (by simp) ?_
      refine AllL.cons (o := { dst := some 32, op := Op.call { callee := Callee.builtin Builtin.append, args := #[Operand.tmp 29, Operand.tmp 31], argTypes := #[22, 22] }, type := 22, pos := "law.go:193", after := #[{ on := 0, ground := Ground.data }, { on := 2, ground := Ground.data }], guard := none }) rfl (fun K hK => ?_) ?_
      · skip
        refine step_append_rd _ (by rfl) (.tmp 29) (.tmp 31) _ (by rfl) V.heap.size 9 i0 _ 1 16 Try.underlying22 hi yz0 yz1 yz2 rfl (by omega) _ 0 [] (by rfl) (own_empty HK36.out (by omega)) V.heap.size A n c _ (by rfl) (HR.out.below HB36.out) (strs_one s.sent) (by unfold maxLen; omega) (by omega) HB36.out.size ?_
        intro A37 c37 W37 hc37 hm37 hown hg hat
        simp only [Nat.zero_add, List.nil_append] at hown hc37 ⊢
        have HB37 : Hid (Below V.heap.size V W37) := HB36.out.grown hg HB36.out.size (fun k hk => by have := Option.some.inj hk; simp at this; omega)
        have HO37 := Lib.hid hown
        have HK35_36_37 : Hid (Bk W37 b35 9 #[.string ⟨#[120]⟩, .string ⟨#[121]⟩]) := HK35_36.out.grown hg (by intro e; have := Option.some.inj e; simp at this; omega)
        have hv37 := hg.size
        have hu37 := HB37.out.size
        clear hown hg hat
        simp only [Act.put, List.setIfInBounds_toArray, List.set_cons_zero, List.set_cons_succ]
        refine hK.out _ _ ?_ ?_
        · exact fun _ => HS.out _ HB37.out
        clear hK K
        refine anyL_all (rs := [5, 15]) (by kernel_rfl) (by simp) ?_
        refine AllL.cons (o := { dst := some 34, op := Op.call { callee := Callee.builtin Builtin.append, args := #[Operand.tmp 32, Operand.tmp 33], argTypes := #[22, 22] }, type := 22, pos := "law.go:193", after := #[{ on := 3, ground := Ground.data }, { on := 4, ground := Ground.data }, { on := 3, ground := Ground.chain }], guard := none }) rfl (fun K hK => ?_) ?_
        · skip
          refine step_append_rd _ (by rfl) (.tmp 32) (.tmp 33) _ (by rfl) V.heap.size 9 i0 _ 1 16 Try.underlying22 hi yz0 yz1 yz2 rfl (by omega) _ n (s.sent.map Value.string) (by rfl) HO37.out (b35 + 1) _ 2 2 [.string ⟨#[120]⟩, .string ⟨#[121]⟩] (by rfl) (rd_xy HK35_36_37.out) (by simp [Value.oneCell']) (by unfold maxLen; omega) (by omega) HB37.out.size ?_
          intro A38 c38 W38 hc38 hm38 hown hg hat
          have HB38 : Hid (Below V.heap.size V W38) := HB37.out.grown hg HB37.out.size (fun k hk => (HO37.out.lt k hk).1)
          have HO38 := Lib.hid hown
          have hj38 : (n : Int) ≤ (c38 : Int) := by omega
          have hv38 := hg.size
          have hu38 := HB38.out.size
          clear hown hg hat
          simp only [Act.put, List.setIfInBounds_toArray, List.set_cons_zero, List.set_cons_succ]
          refine hK.out _ _ ?_ ?_
          · exact fun _ => HS.out _ HB38.out
          clear hK K
          refine anyL_take (i := 9) (oi := { dst := some 38, op := Op.slice 22 (Operand.tmp 34) none (some (Operand.tmp 37)) none, type := 22, pos := "law.go:193", after := #[{ on := 5, ground := Ground.data }, { on := 8, ground := Ground.data }], guard := none }) (v := ?_) rfl (by kernel_rfl) (by kernel_rfl) (by kernel_rfl) (by kernel_rfl) (fun _ _ _ h => h) (Or.inl ⟨by rfl, ?_⟩) (HS.out _ HB38.out) ?_
          rotate_left
          · intro w hSw
            try dsimp only at hSw
            obtain ⟨_, e1, e2, e3⟩ := hSw
            first | (go_simp <;> fail) | (go_simp; with_reducible rfl)
          simp only [Act.put, List.setIfInBounds_toArray, List.set_cons_zero, List.set_cons_succ]
          refine anyL_take (i := 14) (oi := { dst := some 43, op := Op.build 24 #[(0, Operand.tmp 38), (1, Operand.tmp 40), (2, Operand.tmp 42)], type := 24, pos := "law.go:193", after := #[{ on := 9, ground := Ground.data }, { on := 11, ground := Ground.data }, { on := 13, ground := Ground.data }], guard := none }) (v := ?_) rfl (by kernel_rfl) (by kernel_rfl) (by kernel_rfl) (by kernel_rfl) (fun _ _ _ h => h) (Or.inl ⟨by rfl, ?_⟩) (HS.out _ HB38.out) ?_
          rotate_left
          · intro w hSw
            try dsimp only at hSw
            obtain ⟨_, e1, e2, e3⟩ := hSw
            first | (go_simp <;> fail) | (go_simp; with_reducible rfl)
          simp only [Act.put, List.setIfInBounds_toArray, List.set_cons_zero, List.set_cons_succ]
          refine anyL_one (i := 15) (o := { dst := some 7, op := Op.alloc 24, type := 0, pos := "law.go:193", after := #[], guard := none }) (by kernel_rfl) rfl (fun K hK => ?_)
          go_simp
          refine hK.out _ _ ?_ ?_
          · exact fun _ => HS.out _ (HB38.out.alloc HB38.out.size _)
          clear hK K
          obtain ⟨W39, hW⟩ : ∃ W39, W39 = W38.alloc (.cells #[.slice none 0 0, .int .i64 0, .int .i64 0] 24) := ⟨_, rfl⟩
          rw [← hW]
          obtain ⟨b39, hb⟩ : ∃ b39, b39 = W38.heap.size := ⟨_, rfl⟩
          rw [← hb]
          have HB39 : Hid (Below V.heap.size V W39) := by rw [hW]; exact HB38.out.alloc HB38.out.size _
          have HK39 : Hid (Bk W39 b39 24 #[.slice none 0 0, .int .i64 0, .int .i64 0]) := by rw [hW, hb]; exact Bk.new _ _ _
          have hy39 : b39 < W39.heap.size := HK39.out.lt
          have hx39 : W38.heap.size ≤ b39 := by omega
          have hv39 := HB38.out.size
          have HO38_39 : Hid (W39.ownsRow V.heap.size 9 1 (.slice A38 (n + 2) c38) (n + 2) (s.sent.map Value.string ++ [.string ⟨#[120]⟩, .string ⟨#[121]⟩])) := by rw [hW]; exact HO38.out.alloc _
          clear hW hb
          refine anyL_one (i := 16) (o := { dst := none, op := Op.store 24 (Operand.tmp 7) (Operand.tmp 43), type := 0, pos := "law.go:193", after := #[{ on := 15, ground := Ground.data }, { on := 14, ground := Ground.data }, { on := 5, ground := Ground.chain }, { on := 0, ground := Ground.phase }, { on := 1, ground := Ground.phase }, { on := 2, ground := Ground.phase }, { on := 3, ground := Ground.phase }, { on := 4, ground := Ground.phase }, { on := 5, ground := Ground.phase }, { on := 6, ground := Ground.phase }, { on := 7, ground := Ground.phase }, { on := 8, ground := Ground.phase }, { on := 9, ground := Ground.phase }, { on := 10, ground := Ground.phase }, { on := 11, ground := Ground.phase }, { on := 12, ground := Ground.phase }, { on := 13, ground := Ground.phase }, { on := 14, ground := Ground.phase }, { on := 15, ground := Ground.phase }], guard := none }) (by kernel_rfl) rfl (fun K hK => ?_)
          obtain ⟨q0, q1, q2, z0, z1, z2, hgg⟩ := HK39.out.three
          go_simp
          refine hK.out _ _ (fun h => absurd rfl h) ?_
          clear hK K
          refine anyL_done (by kernel_rfl) ?_ _
          refine NoPanic.normal ?_
          apply HN.out
          have hap := own_ne_bk HO38_39.out HK39.out (by decide)
          have hin : V.heap.size ≤ b39 := by omega
          exact ⟨b39, _, _, rfl, hin, set3_cells HK39.out _ _ _, by omega, by omega, ownsRow_setCell_other (ownsRow_setCell_other (ownsRow_setCell_other HO38_39.out (a := ⟨b39, 0, none⟩) hap.symm _) (a := ⟨b39, 1, none⟩) hap.symm _) (a := ⟨b39, 2, none⟩) hap.symm _, Below.setCell (Below.setCell (Below.setCell HB39.out (p := ⟨b39, 0, none⟩) hin _) (p := ⟨b39, 1, none⟩) hin _) (p := ⟨b39, 2, none⟩) hin _⟩
        refine AllL.cons (o := { dst := some 7, op := Op.alloc 24, type := 0, pos := "law.go:193", after := #[], guard := none }) rfl (fun K hK => ?_) ?_
        · skip
          go_simp
          refine hK.out _ _ ?_ ?_
          · exact fun _ => HS.out _ (HB37.out.alloc HB37.out.size _)
          clear hK K
          obtain ⟨W41, hW⟩ : ∃ W41, W41 = W37.alloc (.cells #[.slice none 0 0, .int .i64 0, .int .i64 0] 24) := ⟨_, rfl⟩
          rw [← hW]
          obtain ⟨b41, hb⟩ : ∃ b41, b41 = W37.heap.size := ⟨_, rfl⟩
          rw [← hb]
          have HB41 : Hid (Below V.heap.size V W41) := by rw [hW]; exact HB37.out.alloc HB37.out.size _
          have HK41 : Hid (Bk W41 b41 24 #[.slice none 0 0, .int .i64 0, .int .i64 0]) := by rw [hW, hb]; exact Bk.new _ _ _
          have hy41 : b41 < W41.heap.size := HK41.out.lt
          have hx41 : W37.heap.size ≤ b41 := by omega
          have hv41 := HB37.out.size
          have HK35_36_37_41 : Hid (Bk W41 b35 9 #[.string ⟨#[120]⟩, .string ⟨#[121]⟩]) := by rw [hW]; exact HK35_36_37.out.alloc _
          have HO37_41 : Hid (W41.ownsRow V.heap.size 9 1 (.slice A37 n c37) n (s.sent.map Value.string)) := by rw [hW]; exact HO37.out.alloc _
          clear hW hb
          refine anyL_one (i := 5) (o := { dst := some 34, op := Op.call { callee := Callee.builtin Builtin.append, args := #[Operand.tmp 32, Operand.tmp 33], argTypes := #[22, 22] }, type := 22, pos := "law.go:193", after := #[{ on := 3, ground := Ground.data }, { on := 4, ground := Ground.data }, { on := 3, ground := Ground.chain }], guard := none }) (by kernel_rfl) rfl (fun K hK => ?_)
          refine step_append_rd _ (by rfl) (.tmp 32) (.tmp 33) _ (by rfl) V.heap.size 9 i0 _ 1 16 Try.underlying22 hi yz0 yz1 yz2 rfl (by omega) _ n (s.sent.map Value.string) (by rfl) HO37_41.out (b35 + 1) _ 2 2 [.string ⟨#[120]⟩, .string ⟨#[121]⟩] (by rfl) (rd_xy HK35_36_37_41.out) (by simp [Value.oneCell']) (by unfold maxLen; omega) (by omega) HB41.out.size ?_
          intro A42 c42 W42 hc42 hm42 hown hg hat
          have HB42 : Hid (Below V.heap.size V W42) := HB41.out.grown hg HB41.out.size (fun k hk => (HO37_41.out.lt k hk).1)
          have HO42 := Lib.hid hown
          have hj42 : (n : Int) ≤ (c42 : Int) := by omega
          have HK41_42 : Hid (Bk W42 b41 24 #[.slice none 0 0, .int .i64 0, .int .i64 0]) := HK41.out.grown hg (own_ne_bk HO37_41.out HK41.out (by decide))
          have hv42 := hg.size
          have hu42 := HB42.out.size
          clear hown hg hat
          simp only [Act.put, List.setIfInBounds_toArray, List.set_cons_zero, List.set_cons_succ]
          refine hK.out _ _ ?_ ?_
          · exact fun _ => HS.out _ HB42.out
          clear hK K
          refine anyL_take (i := 9) (oi := { dst := some 38, op := Op.slice 22 (Operand.tmp 34) none (some (Operand.tmp 37)) none, type := 22, pos := "law.go:193", after := #[{ on := 5, ground := Ground.data }, { on := 8, ground := Ground.data }], guard := none }) (v := ?_) rfl (by kernel_rfl) (by kernel_rfl) (by kernel_rfl) (by kernel_rfl) (fun _ _ _ h => h) (Or.inl ⟨by rfl, ?_⟩) (HS.out _ HB42.out) ?_
          rotate_left
          · intro w hSw
            try dsimp only at hSw
            obtain ⟨_, e1, e2, e3⟩ := hSw
            first | (go_simp <;> fail) | (go_simp; with_reducible rfl)
          simp only [Act.put, List.setIfInBounds_toArray, List.set_cons_zero, List.set_cons_succ]
          refine anyL_take (i := 14) (oi := { dst := some 43, op := Op.build 24 #[(0, Operand.tmp 38), (1, Operand.tmp 40), (2, Operand.tmp 42)], type := 24, pos := "law.go:193", after := #[{ on := 9, ground := Ground.data }, { on := 11, ground := Ground.data }, { on := 13, ground := Ground.data }], guard := none }) (v := ?_) rfl (by kernel_rfl) (by kernel_rfl) (by kernel_rfl) (by kernel_rfl) (fun _ _ _ h => h) (Or.inl ⟨by rfl, ?_⟩) (HS.out _ HB42.out) ?_
          rotate_left
          · intro w hSw
            try dsimp only at hSw
            obtain ⟨_, e1, e2, e3⟩ := hSw
            first | (go_simp <;> fail) | (go_simp; with_reducible rfl)
          simp only [Act.put, List.setIfInBounds_toArray, List.set_cons_zero, List.set_cons_succ]
          refine anyL_one (i := 16) (o := { dst := none, op := Op.store 24 (Operand.tmp 7) (Operand.tmp 43), type := 0, pos := "law.go:193", after := #[{ on := 15, ground := Ground.data }, { on := 14, ground := Ground.data }, { on := 5, ground := Ground.chain }, { on := 0, ground := Ground.phase }, { on := 1, ground := Ground.phase }, { on := 2, ground := Ground.phase }, { on := 3, ground := Ground.phase }, { on := 4, ground := Ground.phase }, { on := 5, ground := Ground.phase }, { on := 6, ground := Ground.phase }, { on := 7, ground := Ground.phase }, { on := 8, ground := Ground.phase }, { on := 9, ground := Ground.phase }, { on := 10, ground := Ground.phase }, { on := 11, ground := Ground.phase }, { on := 12, ground := Ground.phase }, { on := 13, ground := Ground.phase }, { on := 14, ground := Ground.phase }, { on := 15, ground := Ground.phase }], guard := none }) (by kernel_rfl) rfl (fun K hK => ?_)
          obtain ⟨q0, q1, q2, z0, z1, z2, hgg⟩ := HK41_42.out.three
          go_simp
          refine hK.out _ _ (fun h => absurd rfl h) ?_
          clear hK K
          refine anyL_done (by kernel_rfl) ?_ _
          refine NoPanic.normal ?_
          apply HN.out
          have hap := own_ne_bk HO42.out HK41_42.out (by decide)
          have hin : V.heap.size ≤ b41 := by omega
          exact ⟨b41, _, _, rfl, hin, set3_cells HK41_42.out _ _ _, by omega, by omega, ownsRow_setCell_other (ownsRow_setCell_other (ownsRow_setCell_other HO42.out (a := ⟨b41, 0, none⟩) hap.symm _) (a := ⟨b41, 1, none⟩) hap.symm _) (a := ⟨b41, 2, none⟩) hap.symm _, Below.setCell (Below.setCell (Below.setCell HB42.out (p := ⟨b41, 0, none⟩) hin _) (p := ⟨b41, 1, none⟩) hin _) (p := ⟨b41, 2, none⟩) hin _⟩
        exact AllL.nil
      refine AllL.cons (o := { dst := some 7, op := Op.alloc 24, type := 0, pos := "law.go:193", after := #[], guard := none }) rfl (fun K hK => ?_) ?_
      · skip
        go_simp
        refine hK.out _ _ ?_ ?_
        · exact fun _ => HS.out _ (HB36.out.alloc HB36.out.size _)
        clear hK K
        obtain ⟨W44, hW⟩ : ∃ W44, W44 = W36.alloc (.cells #[.slice none 0 0, .int .i64 0, .int .i64 0] 24) := ⟨_, rfl⟩
        rw [← hW]
        obtain ⟨b44, hb⟩ : ∃ b44, b44 = W36.heap.size := ⟨_, rfl⟩
        rw [← hb]
        have HB44 : Hid (Below V.heap.size V W44) := by rw [hW]; exact HB36.out.alloc HB36.out.size _
        have HK44 : Hid (Bk W44 b44 24 #[.slice none 0 0, .int .i64 0, .int .i64 0]) := by rw [hW, hb]; exact Bk.new _ _ _
        have hy44 : b44 < W44.heap.size := HK44.out.lt
        have hx44 : W36.heap.size ≤ b44 := by omega
        have hv44 := HB36.out.size
        have HK35_36_44 : Hid (Bk W44 b35 9 #[.string ⟨#[120]⟩, .string ⟨#[121]⟩]) := by rw [hW]; exact HK35_36.out.alloc _
        have HK36_44 : Hid (Bk W44 b36 9 #[]) := by rw [hW]; exact HK36.out.alloc _
        clear hW hb
        refine anyL_one (i := 3) (o := { dst := some 32, op := Op.call { callee := Callee.builtin Builtin.append, args := #[Operand.tmp 29, Operand.tmp 31], argTypes := #[22, 22] }, type := 22, pos := "law.go:193", after := #[{ on := 0, ground := Ground.data }, { on := 2, ground := Ground.data }], guard := none }) (by kernel_rfl) rfl (fun K hK => ?_)
        refine step_append_rd _ (by rfl) (.tmp 29) (.tmp 31) _ (by rfl) V.heap.size 9 i0 _ 1 16 Try.underlying22 hi yz0 yz1 yz2 rfl (by omega) _ 0 [] (by rfl) (own_empty HK36_44.out (by omega)) V.heap.size A n c _ (by rfl) (HR.out.below HB44.out) (strs_one s.sent) (by unfold maxLen; omega) (by omega) HB44.out.size ?_
        intro A45 c45 W45 hc45 hm45 hown hg hat
        simp only [Nat.zero_add, List.nil_append] at hown hc45 ⊢
        have HB45 : Hid (Below V.heap.size V W45) := HB44.out.grown hg HB44.out.size (fun k hk => by have := Option.some.inj hk; simp at this; omega)
        have HO45 := Lib.hid hown
        have HK35_36_44_45 : Hid (Bk W45 b35 9 #[.string ⟨#[120]⟩, .string ⟨#[121]⟩]) := HK35_36_44.out.grown hg (by intro e; have := Option.some.inj e; simp at this; omega)
        have HK44_45 : Hid (Bk W45 b44 24 #[.slice none 0 0, .int .i64 0, .int .i64 0]) := HK44.out.grown hg (by intro e; have := Option.some.inj e; simp at this; omega)
        have hv45 := hg.size
        have hu45 := HB45.out.size
        clear hown hg hat
        simp only [Act.put, List.setIfInBounds_toArray, List.set_cons_zero, List.set_cons_succ]
        refine hK.out _ _ ?_ ?_
        · exact fun _ => HS.out _ HB45.out
        clear hK K
        refine anyL_one (i := 5) (o := { dst := some 34, op := Op.call { callee := Callee.builtin Builtin.append, args := #[Operand.tmp 32, Operand.tmp 33], argTypes := #[22, 22] }, type := 22, pos := "law.go:193", after := #[{ on := 3, ground := Ground.data }, { on := 4, ground := Ground.data }, { on := 3, ground := Ground.chain }], guard := none }) (by kernel_rfl) rfl (fun K hK => ?_)
        refine step_append_rd _ (by rfl) (.tmp 32) (.tmp 33) _ (by rfl) V.heap.size 9 i0 _ 1 16 Try.underlying22 hi yz0 yz1 yz2 rfl (by omega) _ n (s.sent.map Value.string) (by rfl) HO45.out (b35 + 1) _ 2 2 [.string ⟨#[120]⟩, .string ⟨#[121]⟩] (by rfl) (rd_xy HK35_36_44_45.out) (by simp [Value.oneCell']) (by unfold maxLen; omega) (by omega) HB45.out.size ?_
        intro A46 c46 W46 hc46 hm46 hown hg hat
        have HB46 : Hid (Below V.heap.size V W46) := HB45.out.grown hg HB45.out.size (fun k hk => (HO45.out.lt k hk).1)
        have HO46 := Lib.hid hown
        have hj46 : (n : Int) ≤ (c46 : Int) := by omega
        have HK44_45_46 : Hid (Bk W46 b44 24 #[.slice none 0 0, .int .i64 0, .int .i64 0]) := HK44_45.out.grown hg (own_ne_bk HO45.out HK44_45.out (by decide))
        have hv46 := hg.size
        have hu46 := HB46.out.size
        clear hown hg hat
        simp only [Act.put, List.setIfInBounds_toArray, List.set_cons_zero, List.set_cons_succ]
        refine hK.out _ _ ?_ ?_
        · exact fun _ => HS.out _ HB46.out
        clear hK K
        refine anyL_take (i := 9) (oi := { dst := some 38, op := Op.slice 22 (Operand.tmp 34) none (some (Operand.tmp 37)) none, type := 22, pos := "law.go:193", after := #[{ on := 5, ground := Ground.data }, { on := 8, ground := Ground.data }], guard := none }) (v := ?_) rfl (by kernel_rfl) (by kernel_rfl) (by kernel_rfl) (by kernel_rfl) (fun _ _ _ h => h) (Or.inl ⟨by rfl, ?_⟩) (HS.out _ HB46.out) ?_
        rotate_left
        · intro w hSw
          try dsimp only at hSw
          obtain ⟨_, e1, e2, e3⟩ := hSw
          first | (go_simp <;> fail) | (go_simp; with_reducible rfl)
        simp only [Act.put, List.setIfInBounds_toArray, List.set_cons_zero, List.set_cons_succ]
        refine anyL_take (i := 14) (oi := { dst := some 43, op := Op.build 24 #[(0, Operand.tmp 38), (1, Operand.tmp 40), (2, Operand.tmp 42)], type := 24, pos := "law.go:193", after := #[{ on := 9, ground := Ground.data }, { on := 11, ground := Ground.data }, { on := 13, ground := Ground.data }], guard := none }) (v := ?_) rfl (by kernel_rfl) (by kernel_rfl) (by kernel_rfl) (by kernel_rfl) (fun _ _ _ h => h) (Or.inl ⟨by rfl, ?_⟩) (HS.out _ HB46.out) ?_
        rotate_left
        · intro w hSw
          try dsimp only at hSw
          obtain ⟨_, e1, e2, e3⟩ := hSw
          first | (go_simp <;> fail) | (go_simp; with_reducible rfl)
        simp only [Act.put, List.setIfInBounds_toArray, List.set_cons_zero, List.set_cons_succ]
        refine anyL_one (i := 16) (o := { dst := none, op := Op.store 24 (Operand.tmp 7) (Operand.tmp 43), type := 0, pos := "law.go:193", after := #[{ on := 15, ground := Ground.data }, { on := 14, ground := Ground.data }, { on := 5, ground := Ground.chain }, { on := 0, ground := Ground.phase }, { on := 1, ground := Ground.phase }, { on := 2, ground := Ground.phase }, { on := 3, ground := Ground.phase }, { on := 4, ground := Ground.phase }, { on := 5, ground := Ground.phase }, { on := 6, ground := Ground.phase }, { on := 7, ground := Ground.phase }, { on := 8, ground := Ground.phase }, { on := 9, ground := Ground.phase }, { on := 10, ground := Ground.phase }, { on := 11, ground := Ground.phase }, { on := 12, ground := Ground.phase }, { on := 13, ground := Ground.phase }, { on := 14, ground := Ground.phase }, { on := 15, ground := Ground.phase }], guard := none }) (by kernel_rfl) rfl (fun K hK => ?_)
        obtain ⟨q0, q1, q2, z0, z1, z2, hgg⟩ := HK44_45_46.out.three
        go_simp
        refine hK.out _ _ (fun h => absurd rfl h) ?_
        clear hK K
        refine anyL_done (by kernel_rfl) ?_ _
        refine NoPanic.normal ?_
        apply HN.out
        have hap := own_ne_bk HO46.out HK44_45_46.out (by decide)
        have hin : V.heap.size ≤ b44 := by omega
        exact ⟨b44, _, _, rfl, hin, set3_cells HK44_45_46.out _ _ _, by omega, by omega, ownsRow_setCell_other (ownsRow_setCell_other (ownsRow_setCell_other HO46.out (a := ⟨b44, 0, none⟩) hap.symm _) (a := ⟨b44, 1, none⟩) hap.symm _) (a := ⟨b44, 2, none⟩) hap.symm _, Below.setCell (Below.setCell (Below.setCell HB46.out (p := ⟨b44, 0, none⟩) hin _) (p := ⟨b44, 1, none⟩) hin _) (p := ⟨b44, 2, none⟩) hin _⟩
      exact AllL.nil
    refine AllL.cons (o := { dst := some 7, op := Op.alloc 24, type := 0, pos := "law.go:193", after := #[], guard := none }) rfl (fun K hK => ?_) ?_
    · skip
      go_simp
      refine hK.out _ _ ?_ ?_
      · exact fun _ => HS.out _ (HB35.out.alloc HB35.out.size _)
      clear hK K
      obtain ⟨W48, hW⟩ : ∃ W48, W48 = W35.alloc (.cells #[.slice none 0 0, .int .i64 0, .int .i64 0] 24) := ⟨_, rfl⟩
      rw [← hW]
      obtain ⟨b48, hb⟩ : ∃ b48, b48 = W35.heap.size := ⟨_, rfl⟩
      rw [← hb]
      have HB48 : Hid (Below V.heap.size V W48) := by rw [hW]; exact HB35.out.alloc HB35.out.size _
      have HK48 : Hid (Bk W48 b48 24 #[.slice none 0 0, .int .i64 0, .int .i64 0]) := by rw [hW, hb]; exact Bk.new _ _ _
      have hy48 : b48 < W48.heap.size := HK48.out.lt
      have hx48 : W35.heap.size ≤ b48 := by omega
      have hv48 := HB35.out.size
      have HK35_48 : Hid (Bk W48 b35 9 #[.string ⟨#[120]⟩, .string ⟨#[121]⟩]) := by rw [hW]; exact HK35.out.alloc _
      clear hW hb
      refine anyL_one (i := 0) (o := { dst := some 29, op := Op.buildSlice 22 0 #[], type := 22, pos := "law.go:193", after := #[], guard := none }) (by kernel_rfl) rfl (fun K hK => ?_)
      go_simp
      refine hK.out _ _ ?_ ?_
      · exact fun _ => HS.out _ (HB48.out.alloc HB48.out.size _)
      clear hK K
      obtain ⟨W49, hW⟩ : ∃ W49, W49 = W48.alloc (.cells #[] 9) := ⟨_, rfl⟩
      rw [← hW]
      obtain ⟨b49, hb⟩ : ∃ b49, b49 = W48.heap.size := ⟨_, rfl⟩
      rw [← hb]
      have HB49 : Hid (Below V.heap.size V W49) := by rw [hW]; exact HB48.out.alloc HB48.out.size _
      have HK49 : Hid (Bk W49 b49 9 #[]) := by rw [hW, hb]; exact Bk.new _ _ _
      have hy49 : b49 < W49.heap.size := HK49.out.lt
      have hx49 : W48.heap.size ≤ b49 := by omega
      have hv49 := HB48.out.size
      have HK35_48_49 : Hid (Bk W49 b35 9 #[.string ⟨#[120]⟩, .string ⟨#[121]⟩]) := by rw [hW]; exact HK35_48.out.alloc _
      have HK48_49 : Hid (Bk W49 b48 24 #[.slice none 0 0, .int .i64 0, .int .i64 0]) := by rw [hW]; exact HK48.out.alloc _
      clear hW hb
      refine anyL_one (i := 3) (o := { dst := some 32, op := Op.call { callee := Callee.builtin Builtin.append, args := #[Operand.tmp 29, Operand.tmp 31], argTypes := #[22, 22] }, type := 22, pos := "law.go:193", after := #[{ on := 0, ground := Ground.data }, { on := 2, ground := Ground.data }], guard := none }) (by kernel_rfl) rfl (fun K hK => ?_)
      refine step_append_rd _ (by rfl) (.tmp 29) (.tmp 31) _ (by rfl) V.heap.size 9 i0 _ 1 16 Try.underlying22 hi yz0 yz1 yz2 rfl (by omega) _ 0 [] (by rfl) (own_empty HK49.out (by omega)) V.heap.size A n c _ (by rfl) (HR.out.below HB49.out) (strs_one s.sent) (by unfold maxLen; omega) (by omega) HB49.out.size ?_
      intro A50 c50 W50 hc50 hm50 hown hg hat
      simp only [Nat.zero_add, List.nil_append] at hown hc50 ⊢
      have HB50 : Hid (Below V.heap.size V W50) := HB49.out.grown hg HB49.out.size (fun k hk => by have := Option.some.inj hk; simp at this; omega)
      have HO50 := Lib.hid hown
      have HK35_48_49_50 : Hid (Bk W50 b35 9 #[.string ⟨#[120]⟩, .string ⟨#[121]⟩]) := HK35_48_49.out.grown hg (by intro e; have := Option.some.inj e; simp at this; omega)
      have HK48_49_50 : Hid (Bk W50 b48 24 #[.slice none 0 0, .int .i64 0, .int .i64 0]) := HK48_49.out.grown hg (by intro e; have := Option.some.inj e; simp at this; omega)
      have hv50 := hg.size
      have hu50 := HB50.out.size
      clear hown hg hat
      simp only [Act.put, List.setIfInBounds_toArray, List.set_cons_zero, List.set_cons_succ]
      refine hK.out _ _ ?_ ?_
      · exact fun _ => HS.out _ HB50.out
      clear hK K
      refine anyL_one (i := 5) (o := { dst := some 34, op := Op.call { callee := Callee.builtin Builtin.append, args := #[Operand.tmp 32, Operand.tmp 33], argTypes := #[22, 22] }, type := 22, pos := "law.go:193", after := #[{ on := 3, ground := Ground.data }, { on := 4, ground := Ground.data }, { on := 3, ground := Ground.chain }], guard := none }) (by kernel_rfl) rfl (fun K hK => ?_)
      refine step_append_rd _ (by rfl) (.tmp 32) (.tmp 33) _ (by rfl) V.heap.size 9 i0 _ 1 16 Try.underlying22 hi yz0 yz1 yz2 rfl (by omega) _ n (s.sent.map Value.string) (by rfl) HO50.out (b35 + 1) _ 2 2 [.string ⟨#[120]⟩, .string ⟨#[121]⟩] (by rfl) (rd_xy HK35_48_49_50.out) (by simp [Value.oneCell']) (by unfold maxLen; omega) (by omega) HB50.out.size ?_
      intro A51 c51 W51 hc51 hm51 hown hg hat
      have HB51 : Hid (Below V.heap.size V W51) := HB50.out.grown hg HB50.out.size (fun k hk => (HO50.out.lt k hk).1)
      have HO51 := Lib.hid hown
      have hj51 : (n : Int) ≤ (c51 : Int) := by omega
      have HK48_49_50_51 : Hid (Bk W51 b48 24 #[.slice none 0 0, .int .i64 0, .int .i64 0]) := HK48_49_50.out.grown hg (own_ne_bk HO50.out HK48_49_50.out (by decide))
      have hv51 := hg.size
      have hu51 := HB51.out.size
      clear hown hg hat
      simp only [Act.put, List.setIfInBounds_toArray, List.set_cons_zero, List.set_cons_succ]
      refine hK.out _ _ ?_ ?_
      · exact fun _ => HS.out _ HB51.out
      clear hK K
      refine anyL_take (i := 9) (oi := { dst := some 38, op := Op.slice 22 (Operand.tmp 34) none (some (Operand.tmp 37)) none, type := 22, pos := "law.go:193", after := #[{ on := 5, ground := Ground.data }, { on := 8, ground := Ground.data }], guard := none }) (v := ?_) rfl (by kernel_rfl) (by kernel_rfl) (by kernel_rfl) (by kernel_rfl) (fun _ _ _ h => h) (Or.inl ⟨by rfl, ?_⟩) (HS.out _ HB51.out) ?_
      rotate_left
      · intro w hSw
        try dsimp only at hSw
        obtain ⟨_, e1, e2, e3⟩ := hSw
        first | (go_simp <;> fail) | (go_simp; with_reducible rfl)
      simp only [Act.put, List.setIfInBounds_toArray, List.set_cons_zero, List.set_cons_succ]
      refine anyL_take (i := 14) (oi := { dst := some 43, op := Op.build 24 #[(0, Operand.tmp 38), (1, Operand.tmp 40), (2, Operand.tmp 42)], type := 24, pos := "law.go:193", after := #[{ on := 9, ground := Ground.data }, { on := 11, ground := Ground.data }, { on := 13, ground := Ground.data }], guard := none }) (v := ?_) rfl (by kernel_rfl) (by kernel_rfl) (by kernel_rfl) (by kernel_rfl) (fun _ _ _ h => h) (Or.inl ⟨by rfl, ?_⟩) (HS.out _ HB51.out) ?_
      rotate_left
      · intro w hSw
        try dsimp only at hSw
        obtain ⟨_, e1, e2, e3⟩ := hSw
        first | (go_simp <;> fail) | (go_simp; with_reducible rfl)
      simp only [Act.put, List.setIfInBounds_toArray, List.set_cons_zero, List.set_cons_succ]
      refine anyL_one (i := 16) (o := { dst := none, op := Op.store 24 (Operand.tmp 7) (Operand.tmp 43), type := 0, pos := "law.go:193", after := #[{ on := 15, ground := Ground.data }, { on := 14, ground := Ground.data }, { on := 5, ground := Ground.chain }, { on := 0, ground := Ground.phase }, { on := 1, ground := Ground.phase }, { on := 2, ground := Ground.phase }, { on := 3, ground := Ground.phase }, { on := 4, ground := Ground.phase }, { on := 5, ground := Ground.phase }, { on := 6, ground := Ground.phase }, { on := 7, ground := Ground.phase }, { on := 8, ground := Ground.phase }, { on := 9, ground := Ground.phase }, { on := 10, ground := Ground.phase }, { on := 11, ground := Ground.phase }, { on := 12, ground := Ground.phase }, { on := 13, ground := Ground.phase }, { on := 14, ground := Ground.phase }, { on := 15, ground := Ground.phase }], guard := none }) (by kernel_rfl) rfl (fun K hK => ?_)
      obtain ⟨q0, q1, q2, z0, z1, z2, hgg⟩ := HK48_49_50_51.out.three
      go_simp
      refine hK.out _ _ (fun h => absurd rfl h) ?_
      clear hK K
      refine anyL_done (by kernel_rfl) ?_ _
      refine NoPanic.normal ?_
      apply HN.out
      have hap := own_ne_bk HO51.out HK48_49_50_51.out (by decide)
      have hin : V.heap.size ≤ b48 := by omega
      exact ⟨b48, _, _, rfl, hin, set3_cells HK48_49_50_51.out _ _ _, by omega, by omega, ownsRow_setCell_other (ownsRow_setCell_other (ownsRow_setCell_other HO51.out (a := ⟨b48, 0, none⟩) hap.symm _) (a := ⟨b48, 1, none⟩) hap.symm _) (a := ⟨b48, 2, none⟩) hap.symm _, Below.setCell (Below.setCell (Below.setCell HB51.out (p := ⟨b48, 0, none⟩) hin _) (p := ⟨b48, 1, none⟩) hin _) (p := ⟨b48, 2, none⟩) hin _⟩
    exact AllL.nil
  refine AllL.cons (o := { dst := some 7, op := Op.alloc 24, type := 0, pos := "law.go:193", after := #[], guard := none }) rfl (fun K hK => ?_) ?_
  · skip
    go_simp
    refine hK.out _ _ ?_ ?_
    · exact fun _ => HS.out _ (HB0.out.alloc HB0.out.size _)
    clear hK K
    obtain ⟨W53, hW⟩ : ∃ W53, W53 = W0.alloc (.cells #[.slice none 0 0, .int .i64 0, .int .i64 0] 24) := ⟨_, rfl⟩
    rw [← hW]
    obtain ⟨b53, hb⟩ : ∃ b53, b53 = W0.heap.size := ⟨_, rfl⟩
    rw [← hb]
    have HB53 : Hid (Below V.heap.size V W53) := by rw [hW]; exact HB0.out.alloc HB0.out.size _
    have HK53 : Hid (Bk W53 b53 24 #[.slice none 0 0, .int .i64 0, .int .i64 0]) := by rw [hW, hb]; exact Bk.new _ _ _
    have hy53 : b53 < W53.heap.size := HK53.out.lt
    have hx53 : W0.heap.size ≤ b53 := by omega
    have hv53 := HB0.out.size
    clear hW hb
    refine anyL_all (rs := [0, 4]) (by kernel_rfl) (by simp) ?_
    refine AllL.cons (o := { dst := some 29, op := Op.buildSlice 22 0 #[], type := 22, pos := "law.go:193", after := #[], guard := none }) rfl (fun K hK => ?_) ?_
    · skip
      go_simp
      refine hK.out _ _ ?_ ?_
      · exact fun _ => HS.out _ (HB53.out.alloc HB53.out.size _)
      clear hK K
      obtain ⟨W54, hW⟩ : ∃ W54, W54 = W53.alloc (.cells #[] 9) := ⟨_, rfl⟩
      rw [← hW]
      obtain ⟨b54, hb⟩ : ∃ b54, b54 = W53.heap.size := ⟨_, rfl⟩
      rw [← hb]
      have HB54 : Hid (Below V.heap.size V W54) := by rw [hW]; exact HB53.out.alloc HB53.out.size _
      have HK54 : Hid (Bk W54 b54 9 #[]) := by rw [hW, hb]; exact Bk.new _ _ _
      have hy54 : b54 < W54.heap.size := HK54.out.lt
      have hx54 : W53.heap.size ≤ b54 := by omega
      have hv54 := HB53.out.size
      have HK53_54 : Hid (Bk W54 b53 24 #[.slice none 0 0, .int .i64 0, .int .i64 0]) := by rw [hW]; exact HK53.out.alloc _
      clear hW hb
      refine anyL_all (rs := [3, 4]) (by kernel_rfl) (by simp) ?_
      refine AllL.cons (o := { dst := some 32, op := Op.call { callee := Callee.builtin Builtin.append, args := #[Operand.tmp 29, Operand.tmp 31], argTypes := #[22, 22] }, type := 22, pos := "law.go:193", after := #[{ on := 0, ground := Ground.data }, { on := 2, ground := Ground.data }], guard := none }) rfl (fun K hK => ?_) ?_
      · skip
        refine step_append_rd _ (by rfl) (.tmp 29) (.tmp 31) _ (by rfl) V.heap.size 9 i0 _ 1 16 Try.underlying22 hi yz0 yz1 yz2 rfl (by omega) _ 0 [] (by rfl) (own_empty HK54.out (by omega)) V.heap.size A n c _ (by rfl) (HR.out.below HB54.out) (strs_one s.sent) (by unfold maxLen; omega) (by omega) HB54.out.size ?_
        intro A55 c55 W55 hc55 hm55 hown hg hat
        simp only [Nat.zero_add, List.nil_append] at hown hc55 ⊢
        have HB55 : Hid (Below V.heap.size V W55) := HB54.out.grown hg HB54.out.size (fun k hk => by have := Option.some.inj hk; simp at this; omega)
        have HO55 := Lib.hid hown
        have HK53_54_55 : Hid (Bk W55 b53 24 #[.slice none 0 0, .int .i64 0, .int .i64 0]) := HK53_54.out.grown hg (by intro e; have := Option.some.inj e; simp at this; omega)
        have hv55 := hg.size
        have hu55 := HB55.out.size
        clear hown hg hat
        simp only [Act.put, List.setIfInBounds_toArray, List.set_cons_zero, List.set_cons_succ]
        refine hK.out _ _ ?_ ?_
        · exact fun _ => HS.out _ HB55.out
        clear hK K
        refine anyL_one (i := 4) (o := { dst := some 33, op := Op.buildSlice 22 2 #[(0, Operand.const (Value.string { data := #[120] })), (1, Operand.const (Value.string { data := #[121] }))], type := 22, pos := "law.go:193", after := #[], guard := none }) (by kernel_rfl) rfl (fun K hK => ?_)
        go_simp
        refine hK.out _ _ ?_ ?_
        · exact fun _ => HS.out _ (HB55.out.alloc HB55.out.size _)
        clear hK K
        obtain ⟨W56, hW⟩ : ∃ W56, W56 = W55.alloc (.cells #[.string ⟨#[120]⟩, .string ⟨#[121]⟩] 9) := ⟨_, rfl⟩
        rw [← hW]
        obtain ⟨b56, hb⟩ : ∃ b56, b56 = W55.heap.size := ⟨_, rfl⟩
        rw [← hb]
        have HB56 : Hid (Below V.heap.size V W56) := by rw [hW]; exact HB55.out.alloc HB55.out.size _
        have HK56 : Hid (Bk W56 b56 9 #[.string ⟨#[120]⟩, .string ⟨#[121]⟩]) := by rw [hW, hb]; exact Bk.new _ _ _
        have hy56 : b56 < W56.heap.size := HK56.out.lt
        have hx56 : W55.heap.size ≤ b56 := by omega
        have hv56 := HB55.out.size
        have HK53_54_55_56 : Hid (Bk W56 b53 24 #[.slice none 0 0, .int .i64 0, .int .i64 0]) := by rw [hW]; exact HK53_54_55.out.alloc _
        have HO55_56 : Hid (W56.ownsRow V.heap.size 9 1 (.slice A55 n c55) n (s.sent.map Value.string)) := by rw [hW]; exact HO55.out.alloc _
        clear hW hb
        refine anyL_one (i := 5) (o := { dst := some 34, op := Op.call { callee := Callee.builtin Builtin.append, args := #[Operand.tmp 32, Operand.tmp 33], argTypes := #[22, 22] }, type := 22, pos := "law.go:193", after := #[{ on := 3, ground := Ground.data }, { on := 4, ground := Ground.data }, { on := 3, ground := Ground.chain }], guard := none }) (by kernel_rfl) rfl (fun K hK => ?_)
        refine step_append_rd _ (by rfl) (.tmp 32) (.tmp 33) _ (by rfl) V.heap.size 9 i0 _ 1 16 Try.underlying22 hi yz0 yz1 yz2 rfl (by omega) _ n (s.sent.map Value.string) (by rfl) HO55_56.out (b56 + 1) _ 2 2 [.string ⟨#[120]⟩, .string ⟨#[121]⟩] (by rfl) (rd_xy HK56.out) (by simp [Value.oneCell']) (by unfold maxLen; omega) (by omega) HB56.out.size ?_
        intro A57 c57 W57 hc57 hm57 hown hg hat
        have HB57 : Hid (Below V.heap.size V W57) := HB56.out.grown hg HB56.out.size (fun k hk => (HO55_56.out.lt k hk).1)
        have HO57 := Lib.hid hown
        have hj57 : (n : Int) ≤ (c57 : Int) := by omega
        have HK53_54_55_56_57 : Hid (Bk W57 b53 24 #[.slice none 0 0, .int .i64 0, .int .i64 0]) := HK53_54_55_56.out.grown hg (own_ne_bk HO55_56.out HK53_54_55_56.out (by decide))
        have hv57 := hg.size
        have hu57 := HB57.out.size
        clear hown hg hat
        simp only [Act.put, List.setIfInBounds_toArray, List.set_cons_zero, List.set_cons_succ]
        refine hK.out _ _ ?_ ?_
        · exact fun _ => HS.out _ HB57.out
        clear hK K
        refine anyL_take (i := 9) (oi := { dst := some 38, op := Op.slice 22 (Operand.tmp 34) none (some (Operand.tmp 37)) none, type := 22, pos := "law.go:193", after := #[{ on := 5, ground := Ground.data }, { on := 8, ground := Ground.data }], guard := none }) (v := ?_) rfl (by kernel_rfl) (by kernel_rfl) (by kernel_rfl) (by kernel_rfl) (fun _ _ _ h => h) (Or.inl ⟨by rfl, ?_⟩) (HS.out _ HB57.out) ?_
        rotate_left
        · intro w hSw
          try dsimp only at hSw
          obtain ⟨_, e1, e2, e3⟩ := hSw
          first | (go_simp <;> fail) | (go_simp; with_reducible rfl)
        simp only [Act.put, List.setIfInBounds_toArray, List.set_cons_zero, List.set_cons_succ]
        refine anyL_take (i := 14) (oi := { dst := some 43, op := Op.build 24 #[(0, Operand.tmp 38), (1, Operand.tmp 40), (2, Operand.tmp 42)], type := 24, pos := "law.go:193", after := #[{ on := 9, ground := Ground.data }, { on := 11, ground := Ground.data }, { on := 13, ground := Ground.data }], guard := none }) (v := ?_) rfl (by kernel_rfl) (by kernel_rfl) (by kernel_rfl) (by kernel_rfl) (fun _ _ _ h => h) (Or.inl ⟨by rfl, ?_⟩) (HS.out _ HB57.out) ?_
        rotate_left
        · intro w hSw
          try dsimp only at hSw
          obtain ⟨_, e1, e2, e3⟩ := hSw
          first | (go_simp <;> fail) | (go_simp; with_reducible rfl)
        simp only [Act.put, List.setIfInBounds_toArray, List.set_cons_zero, List.set_cons_succ]
        refine anyL_one (i := 16) (o := { dst := none, op := Op.store 24 (Operand.tmp 7) (Operand.tmp 43), type := 0, pos := "law.go:193", after := #[{ on := 15, ground := Ground.data }, { on := 14, ground := Ground.data }, { on := 5, ground := Ground.chain }, { on := 0, ground := Ground.phase }, { on := 1, ground := Ground.phase }, { on := 2, ground := Ground.phase }, { on := 3, ground := Ground.phase }, { on := 4, ground := Ground.phase }, { on := 5, ground := Ground.phase }, { on := 6, ground := Ground.phase }, { on := 7, ground := Ground.phase }, { on := 8, ground := Ground.phase }, { on := 9, ground := Ground.phase }, { on := 10, ground := Ground.phase }, { on := 11, ground := Ground.phase }, { on := 12, ground := Ground.phase }, { on := 13, ground := Ground.phase }, { on := 14, ground := Ground.phase }, { on := 15, ground := Ground.phase }], guard := none }) (by kernel_rfl) rfl (fun K hK => ?_)
        obtain ⟨q0, q1, q2, z0, z1, z2, hgg⟩ := HK53_54_55_56_57.out.three
        go_simp
        refine hK.out _ _ (fun h => absurd rfl h) ?_
        clear hK K
        refine anyL_done (by kernel_rfl) ?_ _
        refine NoPanic.normal ?_
        apply HN.out
        have hap := own_ne_bk HO57.out HK53_54_55_56_57.out (by decide)
        have hin : V.heap.size ≤ b53 := by omega
        exact ⟨b53, _, _, rfl, hin, set3_cells HK53_54_55_56_57.out _ _ _, by omega, by omega, ownsRow_setCell_other (ownsRow_setCell_other (ownsRow_setCell_other HO57.out (a := ⟨b53, 0, none⟩) hap.symm _) (a := ⟨b53, 1, none⟩) hap.symm _) (a := ⟨b53, 2, none⟩) hap.symm _, Below.setCell (Below.setCell (Below.setCell HB57.out (p := ⟨b53, 0, none⟩) hin _) (p := ⟨b53, 1, none⟩) hin _) (p := ⟨b53, 2, none⟩) hin _⟩
      refine AllL.cons (o := { dst := some 33, op := Op.buildSlice 22 2 #[(0, Operand.const (Value.string { data := #[120] })), (1, Operand.const (Value.string { data := #[121] }))], type := 22, pos := "law.go:193", after := #[], guard := none }) rfl (fun K hK => ?_) ?_
      · skip
        go_simp
        refine hK.out _ _ ?_ ?_
        · exact fun _ => HS.out _ (HB54.out.alloc HB54.out.size _)
        clear hK K
        obtain ⟨W59, hW⟩ : ∃ W59, W59 = W54.alloc (.cells #[.string ⟨#[120]⟩, .string ⟨#[121]⟩] 9) := ⟨_, rfl⟩
        rw [← hW]
        obtain ⟨b59, hb⟩ : ∃ b59, b59 = W54.heap.size := ⟨_, rfl⟩
        rw [← hb]
        have HB59 : Hid (Below V.heap.size V W59) := by rw [hW]; exact HB54.out.alloc HB54.out.size _
        have HK59 : Hid (Bk W59 b59 9 #[.string ⟨#[120]⟩, .string ⟨#[121]⟩]) := by rw [hW, hb]; exact Bk.new _ _ _
        have hy59 : b59 < W59.heap.size := HK59.out.lt
        have hx59 : W54.heap.size ≤ b59 := by omega
        have hv59 := HB54.out.size
        have HK53_54_59 : Hid (Bk W59 b53 24 #[.slice none 0 0, .int .i64 0, .int .i64 0]) := by rw [hW]; exact HK53_54.out.alloc _
        have HK54_59 : Hid (Bk W59 b54 9 #[]) := by rw [hW]; exact HK54.out.alloc _
        clear hW hb
        refine anyL_one (i := 3) (o := { dst := some 32, op := Op.call { callee := Callee.builtin Builtin.append, args := #[Operand.tmp 29, Operand.tmp 31], argTypes := #[22, 22] }, type := 22, pos := "law.go:193", after := #[{ on := 0, ground := Ground.data }, { on := 2, ground := Ground.data }], guard := none }) (by kernel_rfl) rfl (fun K hK => ?_)
        refine step_append_rd _ (by rfl) (.tmp 29) (.tmp 31) _ (by rfl) V.heap.size 9 i0 _ 1 16 Try.underlying22 hi yz0 yz1 yz2 rfl (by omega) _ 0 [] (by rfl) (own_empty HK54_59.out (by omega)) V.heap.size A n c _ (by rfl) (HR.out.below HB59.out) (strs_one s.sent) (by unfold maxLen; omega) (by omega) HB59.out.size ?_
        intro A60 c60 W60 hc60 hm60 hown hg hat
        simp only [Nat.zero_add, List.nil_append] at hown hc60 ⊢
        have HB60 : Hid (Below V.heap.size V W60) := HB59.out.grown hg HB59.out.size (fun k hk => by have := Option.some.inj hk; simp at this; omega)
        have HO60 := Lib.hid hown
        have HK59_60 : Hid (Bk W60 b59 9 #[.string ⟨#[120]⟩, .string ⟨#[121]⟩]) := HK59.out.grown hg (by intro e; have := Option.some.inj e; simp at this; omega)
        have HK53_54_59_60 : Hid (Bk W60 b53 24 #[.slice none 0 0, .int .i64 0, .int .i64 0]) := HK53_54_59.out.grown hg (by intro e; have := Option.some.inj e; simp at this; omega)
        have hv60 := hg.size
        have hu60 := HB60.out.size
        clear hown hg hat
        simp only [Act.put, List.setIfInBounds_toArray, List.set_cons_zero, List.set_cons_succ]
        refine hK.out _ _ ?_ ?_
        · exact fun _ => HS.out _ HB60.out
        clear hK K
        refine anyL_one (i := 5) (o := { dst := some 34, op := Op.call { callee := Callee.builtin Builtin.append, args := #[Operand.tmp 32, Operand.tmp 33], argTypes := #[22, 22] }, type := 22, pos := "law.go:193", after := #[{ on := 3, ground := Ground.data }, { on := 4, ground := Ground.data }, { on := 3, ground := Ground.chain }], guard := none }) (by kernel_rfl) rfl (fun K hK => ?_)
        refine step_append_rd _ (by rfl) (.tmp 32) (.tmp 33) _ (by rfl) V.heap.size 9 i0 _ 1 16 Try.underlying22 hi yz0 yz1 yz2 rfl (by omega) _ n (s.sent.map Value.string) (by rfl) HO60.out (b59 + 1) _ 2 2 [.string ⟨#[120]⟩, .string ⟨#[121]⟩] (by rfl) (rd_xy HK59_60.out) (by simp [Value.oneCell']) (by unfold maxLen; omega) (by omega) HB60.out.size ?_
        intro A61 c61 W61 hc61 hm61 hown hg hat
        have HB61 : Hid (Below V.heap.size V W61) := HB60.out.grown hg HB60.out.size (fun k hk => (HO60.out.lt k hk).1)
        have HO61 := Lib.hid hown
        have hj61 : (n : Int) ≤ (c61 : Int) := by omega
        have HK53_54_59_60_61 : Hid (Bk W61 b53 24 #[.slice none 0 0, .int .i64 0, .int .i64 0]) := HK53_54_59_60.out.grown hg (own_ne_bk HO60.out HK53_54_59_60.out (by decide))
        have hv61 := hg.size
        have hu61 := HB61.out.size
        clear hown hg hat
        simp only [Act.put, List.setIfInBounds_toArray, List.set_cons_zero, List.set_cons_succ]
        refine hK.out _ _ ?_ ?_
        · exact fun _ => HS.out _ HB61.out
        clear hK K
        refine anyL_take (i := 9) (oi := { dst := some 38, op := Op.slice 22 (Operand.tmp 34) none (some (Operand.tmp 37)) none, type := 22, pos := "law.go:193", after := #[{ on := 5, ground := Ground.data }, { on := 8, ground := Ground.data }], guard := none }) (v := ?_) rfl (by kernel_rfl) (by kernel_rfl) (by kernel_rfl) (by kernel_rfl) (fun _ _ _ h => h) (Or.inl ⟨by rfl, ?_⟩) (HS.out _ HB61.out) ?_
        rotate_left
        · intro w hSw
          try dsimp only at hSw
          obtain ⟨_, e1, e2, e3⟩ := hSw
          first | (go_simp <;> fail) | (go_simp; with_reducible rfl)
        simp only [Act.put, List.setIfInBounds_toArray, List.set_cons_zero, List.set_cons_succ]
        refine anyL_take (i := 14) (oi := { dst := some 43, op := Op.build 24 #[(0, Operand.tmp 38), (1, Operand.tmp 40), (2, Operand.tmp 42)], type := 24, pos := "law.go:193", after := #[{ on := 9, ground := Ground.data }, { on := 11, ground := Ground.data }, { on := 13, ground := Ground.data }], guard := none }) (v := ?_) rfl (by kernel_rfl) (by kernel_rfl) (by kernel_rfl) (by kernel_rfl) (fun _ _ _ h => h) (Or.inl ⟨by rfl, ?_⟩) (HS.out _ HB61.out) ?_
        rotate_left
        · intro w hSw
          try dsimp only at hSw
          obtain ⟨_, e1, e2, e3⟩ := hSw
          first | (go_simp <;> fail) | (go_simp; with_reducible rfl)
        simp only [Act.put, List.setIfInBounds_toArray, List.set_cons_zero, List.set_cons_succ]
        refine anyL_one (i := 16) (o := { dst := none, op := Op.store 24 (Operand.tmp 7) (Operand.tmp 43), type := 0, pos := "law.go:193", after := #[{ on := 15, ground := Ground.data }, { on := 14, ground := Ground.data }, { on := 5, ground := Ground.chain }, { on := 0, ground := Ground.phase }, { on := 1, ground := Ground.phase }, { on := 2, ground := Ground.phase }, { on := 3, ground := Ground.phase }, { on := 4, ground := Ground.phase }, { on := 5, ground := Ground.phase }, { on := 6, ground := Ground.phase }, { on := 7, ground := Ground.phase }, { on := 8, ground := Ground.phase }, { on := 9, ground := Ground.phase }, { on := 10, ground := Ground.phase }, { on := 11, ground := Ground.phase }, { on := 12, ground := Ground.phase }, { on := 13, ground := Ground.phase }, { on := 14, ground := Ground.phase }, { on := 15, ground := Ground.phase }], guard := none }) (by kernel_rfl) rfl (fun K hK => ?_)
        obtain ⟨q0, q1, q2, z0, z1, z2, hgg⟩ := HK53_54_59_60_61.out.three
        go_simp
        refine hK.out _ _ (fun h => absurd rfl h) ?_
        clear hK K
        refine anyL_done (by kernel_rfl) ?_ _
        refine NoPanic.normal ?_
        apply HN.out
        have hap := own_ne_bk HO61.out HK53_54_59_60_61.out (by decide)
        have hin : V.heap.size ≤ b53 := by omega
        exact ⟨b53, _, _, rfl, hin, set3_cells HK53_54_59_60_61.out _ _ _, by omega, by omega, ownsRow_setCell_other (ownsRow_setCell_other (ownsRow_setCell_other HO61.out (a := ⟨b53, 0, none⟩) hap.symm _) (a := ⟨b53, 1, none⟩) hap.symm _) (a := ⟨b53, 2, none⟩) hap.symm _, Below.setCell (Below.setCell (Below.setCell HB61.out (p := ⟨b53, 0, none⟩) hin _) (p := ⟨b53, 1, none⟩) hin _) (p := ⟨b53, 2, none⟩) hin _⟩
      exact AllL.nil
    refine AllL.cons (o := { dst := some 33, op := Op.buildSlice 22 2 #[(0, Operand.const (Value.string { data := #[120] })), (1, Operand.const (Value.string { data := #[121] }))], type := 22, pos := "law.go:193", after := #[], guard := none }) rfl (fun K hK => ?_) ?_
    · skip
      go_simp
      refine hK.out _ _ ?_ ?_
      · exact fun _ => HS.out _ (HB53.out.alloc HB53.out.size _)
      clear hK K
      obtain ⟨W63, hW⟩ : ∃ W63, W63 = W53.alloc (.cells #[.string ⟨#[120]⟩, .string ⟨#[121]⟩] 9) := ⟨_, rfl⟩
      rw [← hW]
      obtain ⟨b63, hb⟩ : ∃ b63, b63 = W53.heap.size := ⟨_, rfl⟩
      rw [← hb]
      have HB63 : Hid (Below V.heap.size V W63) := by rw [hW]; exact HB53.out.alloc HB53.out.size _
      have HK63 : Hid (Bk W63 b63 9 #[.string ⟨#[120]⟩, .string ⟨#[121]⟩]) := by rw [hW, hb]; exact Bk.new _ _ _
      have hy63 : b63 < W63.heap.size := HK63.out.lt
      have hx63 : W53.heap.size ≤ b63 := by omega
      have hv63 := HB53.out.size
      have HK53_63 : Hid (Bk W63 b53 24 #[.slice none 0 0, .int .i64 0, .int .i64 0]) := by rw [hW]; exact HK53.out.alloc _
      clear hW hb
      refine anyL_one (i := 0) (o := { dst := some 29, op := Op.buildSlice 22 0 #[], type := 22, pos := "law.go:193", after := #[], guard := none }) (by kernel_rfl) rfl (fun K hK => ?_)
      go_simp
      refine hK.out _ _ ?_ ?_
      · exact fun _ => HS.out _ (HB63.out.alloc HB63.out.size _)
      clear hK K
      obtain ⟨W64, hW⟩ : ∃ W64, W64 = W63.alloc (.cells #[] 9) := ⟨_, rfl⟩
      rw [← hW]
      obtain ⟨b64, hb⟩ : ∃ b64, b64 = W63.heap.size := ⟨_, rfl⟩
      rw [← hb]
      have HB64 : Hid (Below V.heap.size V W64) := by rw [hW]; exact HB63.out.alloc HB63.out.size _
      have HK64 : Hid (Bk W64 b64 9 #[]) := by rw [hW, hb]; exact Bk.new _ _ _
      have hy64 : b64 < W64.heap.size := HK64.out.lt
      have hx64 : W63.heap.size ≤ b64 := by omega
      have hv64 := HB63.out.size
      have HK53_63_64 : Hid (Bk W64 b53 24 #[.slice none 0 0, .int .i64 0, .int .i64 0]) := by rw [hW]; exact HK53_63.out.alloc _
      have HK63_64 : Hid (Bk W64 b63 9 #[.string ⟨#[120]⟩, .string ⟨#[121]⟩]) := by rw [hW]; exact HK63.out.alloc _
      clear hW hb
      refine anyL_one (i := 3) (o := { dst := some 32, op := Op.call { callee := Callee.builtin Builtin.append, args := #[Operand.tmp 29, Operand.tmp 31], argTypes := #[22, 22] }, type := 22, pos := "law.go:193", after := #[{ on := 0, ground := Ground.data }, { on := 2, ground := Ground.data }], guard := none }) (by kernel_rfl) rfl (fun K hK => ?_)
      refine step_append_rd _ (by rfl) (.tmp 29) (.tmp 31) _ (by rfl) V.heap.size 9 i0 _ 1 16 Try.underlying22 hi yz0 yz1 yz2 rfl (by omega) _ 0 [] (by rfl) (own_empty HK64.out (by omega)) V.heap.size A n c _ (by rfl) (HR.out.below HB64.out) (strs_one s.sent) (by unfold maxLen; omega) (by omega) HB64.out.size ?_
      intro A65 c65 W65 hc65 hm65 hown hg hat
      simp only [Nat.zero_add, List.nil_append] at hown hc65 ⊢
      have HB65 : Hid (Below V.heap.size V W65) := HB64.out.grown hg HB64.out.size (fun k hk => by have := Option.some.inj hk; simp at this; omega)
      have HO65 := Lib.hid hown
      have HK63_64_65 : Hid (Bk W65 b63 9 #[.string ⟨#[120]⟩, .string ⟨#[121]⟩]) := HK63_64.out.grown hg (by intro e; have := Option.some.inj e; simp at this; omega)
      have HK53_63_64_65 : Hid (Bk W65 b53 24 #[.slice none 0 0, .int .i64 0, .int .i64 0]) := HK53_63_64.out.grown hg (by intro e; have := Option.some.inj e; simp at this; omega)
      have hv65 := hg.size
      have hu65 := HB65.out.size
      clear hown hg hat
      simp only [Act.put, List.setIfInBounds_toArray, List.set_cons_zero, List.set_cons_succ]
      refine hK.out _ _ ?_ ?_
      · exact fun _ => HS.out _ HB65.out
      clear hK K
      refine anyL_one (i := 5) (o := { dst := some 34, op := Op.call { callee := Callee.builtin Builtin.append, args := #[Operand.tmp 32, Operand.tmp 33], argTypes := #[22, 22] }, type := 22, pos := "law.go:193", after := #[{ on := 3, ground := Ground.data }, { on := 4, ground := Ground.data }, { on := 3, ground := Ground.chain }], guard := none }) (by kernel_rfl) rfl (fun K hK => ?_)
      refine step_append_rd _ (by rfl) (.tmp 32) (.tmp 33) _ (by rfl) V.heap.size 9 i0 _ 1 16 Try.underlying22 hi yz0 yz1 yz2 rfl (by omega) _ n (s.sent.map Value.string) (by rfl) HO65.out (b63 + 1) _ 2 2 [.string ⟨#[120]⟩, .string ⟨#[121]⟩] (by rfl) (rd_xy HK63_64_65.out) (by simp [Value.oneCell']) (by unfold maxLen; omega) (by omega) HB65.out.size ?_
      intro A66 c66 W66 hc66 hm66 hown hg hat
      have HB66 : Hid (Below V.heap.size V W66) := HB65.out.grown hg HB65.out.size (fun k hk => (HO65.out.lt k hk).1)
      have HO66 := Lib.hid hown
      have hj66 : (n : Int) ≤ (c66 : Int) := by omega
      have HK53_63_64_65_66 : Hid (Bk W66 b53 24 #[.slice none 0 0, .int .i64 0, .int .i64 0]) := HK53_63_64_65.out.grown hg (own_ne_bk HO65.out HK53_63_64_65.out (by decide))
      have hv66 := hg.size
      have hu66 := HB66.out.size
      clear hown hg hat
      simp only [Act.put, List.setIfInBounds_toArray, List.set_cons_zero, List.set_cons_succ]
      refine hK.out _ _ ?_ ?_
      · exact fun _ => HS.out _ HB66.out
      clear hK K
      refine anyL_take (i := 9) (oi := { dst := some 38, op := Op.slice 22 (Operand.tmp 34) none (some (Operand.tmp 37)) none, type := 22, pos := "law.go:193", after := #[{ on := 5, ground := Ground.data }, { on := 8, ground := Ground.data }], guard := none }) (v := ?_) rfl (by kernel_rfl) (by kernel_rfl) (by kernel_rfl) (by kernel_rfl) (fun _ _ _ h => h) (Or.inl ⟨by rfl, ?_⟩) (HS.out _ HB66.out) ?_
      rotate_left
      · intro w hSw
        try dsimp only at hSw
        obtain ⟨_, e1, e2, e3⟩ := hSw
        first | (go_simp <;> fail) | (go_simp; with_reducible rfl)
      simp only [Act.put, List.setIfInBounds_toArray, List.set_cons_zero, List.set_cons_succ]
      refine anyL_take (i := 14) (oi := { dst := some 43, op := Op.build 24 #[(0, Operand.tmp 38), (1, Operand.tmp 40), (2, Operand.tmp 42)], type := 24, pos := "law.go:193", after := #[{ on := 9, ground := Ground.data }, { on := 11, ground := Ground.data }, { on := 13, ground := Ground.data }], guard := none }) (v := ?_) rfl (by kernel_rfl) (by kernel_rfl) (by kernel_rfl) (by kernel_rfl) (fun _ _ _ h => h) (Or.inl ⟨by rfl, ?_⟩) (HS.out _ HB66.out) ?_
      rotate_left
      · intro w hSw
        try dsimp only at hSw
        obtain ⟨_, e1, e2, e3⟩ := hSw
        first | (go_simp <;> fail) | (go_simp; with_reducible rfl)
      simp only [Act.put, List.setIfInBounds_toArray, List.set_cons_zero, List.set_cons_succ]
      refine anyL_one (i := 16) (o := { dst := none, op := Op.store 24 (Operand.tmp 7) (Operand.tmp 43), type := 0, pos := "law.go:193", after := #[{ on := 15, ground := Ground.data }, { on := 14, ground := Ground.data }, { on := 5, ground := Ground.chain }, { on := 0, ground := Ground.phase }, { on := 1, ground := Ground.phase }, { on := 2, ground := Ground.phase }, { on := 3, ground := Ground.phase }, { on := 4, ground := Ground.phase }, { on := 5, ground := Ground.phase }, { on := 6, ground := Ground.phase }, { on := 7, ground := Ground.phase }, { on := 8, ground := Ground.phase }, { on := 9, ground := Ground.phase }, { on := 10, ground := Ground.phase }, { on := 11, ground := Ground.phase }, { on := 12, ground := Ground.phase }, { on := 13, ground := Ground.phase }, { on := 14, ground := Ground.phase }, { on := 15, ground := Ground.phase }], guard := none }) (by kernel_rfl) rfl (fun K hK => ?_)
      obtain ⟨q0, q1, q2, z0, z1, z2, hgg⟩ := HK53_63_64_65_66.out.three
      go_simp
      refine hK.out _ _ (fun h => absurd rfl h) ?_
      clear hK K
      refine anyL_done (by kernel_rfl) ?_ _
      refine NoPanic.normal ?_
      apply HN.out
      have hap := own_ne_bk HO66.out HK53_63_64_65_66.out (by decide)
      have hin : V.heap.size ≤ b53 := by omega
      exact ⟨b53, _, _, rfl, hin, set3_cells HK53_63_64_65_66.out _ _ _, by omega, by omega, ownsRow_setCell_other (ownsRow_setCell_other (ownsRow_setCell_other HO66.out (a := ⟨b53, 0, none⟩) hap.symm _) (a := ⟨b53, 1, none⟩) hap.symm _) (a := ⟨b53, 2, none⟩) hap.symm _, Below.setCell (Below.setCell (Below.setCell HB66.out (p := ⟨b53, 0, none⟩) hin _) (p := ⟨b53, 1, none⟩) hin _) (p := ⟨b53, 2, none⟩) hin _⟩
    exact AllL.nil
  exact AllL.nil

end Go.Proofs.Ytkklghdmnkdofaa
