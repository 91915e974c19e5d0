/- SessOnce: moves, two bytes as a text, what the loop keeps, the code's parts. -/
import Derived.Test.YtkklghdmnkdofaaO1
import Derived.Test.YtkklghdmnkdofaaM1
import Derived.Laws.BytesArg
namespace Go.Proofs.Ytkklghdmnkdofaa
open Go.RowKit

/-- A part of the code, by its path. -/
def csub : Code → List Bool → Option Code
  | c, [] => some c
  | .seq _ b, true :: p => csub b p
  | .seq a _, false :: p => csub a p
  | .cond _ _ b, true :: p => csub b p
  | .cond _ a _, false :: p => csub a p
  | .block _ c, x :: p => csub c (x :: p)
  | .loop c, x :: p => csub c (x :: p)
  | .scope c, x :: p => csub c (x :: p)
  | _, _ => none
/-- The body of the loop over the moves; the 'switch'; the region that sends. -/
noncomputable def onceCode : Code := ((Try.f7.body.bind fun c => csub c [true, true, true, true, true, true, false, true, true, true, false]).getD .skip)
noncomputable def swCode : Code := ((csub onceCode [true, true, true, false, true]).getD .skip)
theorem alloc3_first (w : World) (a : Array Value) (t : TypeId) (b c : Obj) (i : Nat) : (((w.alloc (.cells a t)).alloc b).alloc c).cell? ⟨w.heap.size, i, none⟩ = a[i]? := by
  rw [World.cell?_alloc_lt _ _ _ (by simp; omega), World.cell?_alloc_lt _ _ _ (by simp), World.cell?_alloc_new]
theorem set3_cells {w : World} {g : Nat} {t : TypeId} {a b c : Value} (h : Bk w g t #[a, b, c]) (x y z : Value) : Bk (((w.setCell ⟨g, 0, none⟩ x).setCell ⟨g, 1, none⟩ y).setCell ⟨g, 2, none⟩ z) g t #[x, y, z] := ((h.set 0 x).set 1 y).set 2 z
theorem set4_cells {w : World} {g : Nat} {t : TypeId} {a b c d : Value} (h : Bk w g t #[a, b, c, d]) (x y z u : Value) : Bk ((((w.setCell ⟨g, 0, none⟩ x).setCell ⟨g, 1, none⟩ y).setCell ⟨g, 2, none⟩ z).setCell ⟨g, 3, none⟩ u) g t #[x, y, z, u] := (((h.set 0 x).set 1 y).set 2 z).set 3 u
theorem Bk.three' {w : World} {g : Nat} {t : TypeId} {a b c : Value} (h : Bk w g t #[a, b, c]) : w.cell? ⟨g, 0, none⟩ = some a ∧ w.cell? ⟨g, 1, none⟩ = some b ∧ w.cell? ⟨g, 2, none⟩ = some c := ⟨h.cell 0, h.cell 1, h.cell 2⟩
theorem Bk.four' {w : World} {g : Nat} {t : TypeId} {a b c d : Value} (h : Bk w g t #[a, b, c, d]) : w.cell? ⟨g, 0, none⟩ = some a ∧ w.cell? ⟨g, 1, none⟩ = some b ∧ w.cell? ⟨g, 2, none⟩ = some c ∧ w.cell? ⟨g, 3, none⟩ = some d := ⟨h.cell 0, h.cell 1, h.cell 2, h.cell 3⟩
noncomputable def r15Code : Code := ((csub swCode [true, false, false]).getD .skip)

/-- A move, as data. -/
structure Mv where
  kind : Int
  who : Int
  i : Int
def Mv.cells (f : Mv) : List Value := [.int .i64 f.kind, .int .i64 f.who, .int .i64 f.i]
def mvs (l : List Mv) : List Value := l.flatMap Mv.cells
theorem mvs_len (l : List Mv) : (mvs l).length = l.length * 3 := by
  induction l with
  | nil => rfl
  | cons a l ih => simp only [mvs, List.flatMap_cons, List.length_append, List.length_cons] at ih ⊢; rw [ih]; simp [Mv.cells]; omega
theorem mvs_at (l : List Mv) (k : Nat) (hk : k < l.length) (j : Nat) (hj : j < 3) : (mvs l)[k * 3 + j]? = (l[k]).cells[j]? := by
  induction l generalizing k with
  | nil => simp at hk
  | cons a l ih =>
    have e : mvs (a :: l) = a.cells ++ mvs l := rfl
    rw [e]
    rcases k with _ | k
    · rw [List.getElem?_append_left (by simp [Mv.cells]; omega)]; simp
    · rw [List.getElem?_append_right (by simp [Mv.cells]; omega), show (k + 1) * 3 + j - a.cells.length = k * 3 + j by simp [Mv.cells]; omega, ih k (by simpa using hk)]; simp
theorem Rd.move {w : World} {B n : Nat} {A : Option Addr} {l : List Mv} (h : Rd w B 3 A n (mvs l)) {k : Nat} (hk : k < l.length) :
    ∃ a, A = some a ∧ a.block < B ∧ w.cell? (a.add (k * 3)) = some (.int .i64 (l[k]).kind) ∧ w.cell? ⟨(a.add (k * 3)).block, (a.add (k * 3)).off + 1, none⟩ = some (.int .i64 (l[k]).who) ∧ w.cell? ⟨(a.add (k * 3)).block, (a.add (k * 3)).off + 2, none⟩ = some (.int .i64 (l[k]).i) := by
  have sp : ∀ (a : Addr) (j : Nat), a.add (k * 3 + (j + 1)) = ⟨(a.add (k * 3)).block, (a.add (k * 3)).off + (j + 1), none⟩ := fun a j => by
    rw [← add_add']; simp [Addr.add]
  obtain ⟨a, hA, hb, h0⟩ := h.cell ((mvs_at l k hk 0 (by omega)).trans rfl)
  obtain ⟨a1, hA1, _, h1⟩ := h.cell ((mvs_at l k hk 1 (by omega)).trans rfl)
  obtain ⟨a2, hA2, _, h2⟩ := h.cell ((mvs_at l k hk 2 (by omega)).trans rfl)
  have e1 : a1 = a := Option.some.inj (hA1.symm.trans hA)
  have e2 : a2 = a := Option.some.inj (hA2.symm.trans hA)
  subst e1 e2
  rw [sp] at h1 h2
  exact ⟨_, hA, hb, h0, h1, h2⟩

theorem and_one_any (n : Int) : ∃ me : Nat, me < 2 ∧ bits BinOp.and IntKind.i64 n 1 = (me : Int) := by
  refine ⟨(BitVec.ofInt 64 n).toNat % 2, Nat.mod_lt _ (by decide), ?_⟩
  show IntKind.i64.wrap ((BitVec.ofInt 64 n &&& BitVec.ofInt 64 1).toNat : Int) = _
  have h1 : (BitVec.ofInt 64 1).toNat = 1 := by decide
  rw [BitVec.toNat_and, h1, Nat.and_one_is_mod]
  exact IntWalk.i64_in _ (by omega)

/-- Behind k rounds. -/
def OnceAt (w : World) (G k : Nat) (wr : World) : Prop :=
  ∃ x y, Two wr G 0 x y ∧ Half x.s x.u x.g y.s y.g ∧ Half y.s y.u y.g x.s x.g ∧ x.u.length ≤ 64 * k ∧ y.u.length ≤ 64 * k ∧ Below w.heap.size w wr

theorem once_back {w wr : World} {G k me : Nat} {x y : ED} (hme : me < 2) (hT : Two wr G me x y) (hX : Half x.s x.u x.g y.s y.g) (hY : Half y.s y.u y.g x.s x.g) (hux : x.u.length ≤ 64 * k) (huy : y.u.length ≤ 64 * k)
    (hb : Below w.heap.size w wr) : OnceAt w G k wr := by
  obtain rfl | rfl : me = 0 ∨ me = 1 := by omega
  · exact ⟨x, y, hT, hX, hY, hux, huy, hb⟩
  · exact ⟨y, x, hT.swap (by omega), hY, hX, huy, hux, hb⟩

def ED.zero : ED := ⟨none, 0, ⟨[], 0, 0⟩, none, 0, [], none, 0, []⟩

/-- The text of two bytes in a block. -/
def byteOf (v : Option Value) : Int := match v with | some (.int .u8 n) => n | _ => 0
def isU8 (v : Option Value) : Bool := match v with | some (.int .u8 _) => true | _ => false
def twoBytes (w : World) (b : Nat) : ByteArray := strOfNums [byteOf (w.cell? ⟨b, 0, none⟩), byteOf (w.cell? ⟨b, 1, none⟩)]
theorem Bk.new' (w : World) (t : TypeId) (cs : Array Value) {g : Nat} (h : g = w.heap.size) : Bk (w.alloc (.cells cs t)) g t cs := by rw [h]; exact Bk.new w t cs
theorem twoBytes_size (w : World) (b : Nat) : (twoBytes w b).size = 2 := rfl
theorem isU8_int (n : Int) : isU8 (some (.int .u8 n)) = true := rfl
theorem isU8_out {v : Option Value} (h : isU8 v = true) : v = some (.int .u8 (byteOf v)) := by
  unfold isU8 at h
  split at h
  · rfl
  · cases h
theorem conv_two (w : World) (b : Nat) (h0 : isU8 (w.cell? ⟨b, 0, none⟩) = true) (h1 : isU8 (w.cell? ⟨b, 1, none⟩) = true) :
    (convert 50 9 (.slice (some ⟨b, 0, none⟩) 2 2)).run Try.prog w = .ok (.string (twoBytes w b)) w := by
  refine run_convert_bytes_arg w 50 5 Try.underlying50 Try.underlying5 b 0 2 2 [byteOf (w.cell? ⟨b, 0, none⟩), byteOf (w.cell? ⟨b, 1, none⟩)] rfl (fun i hi => ?_) 9 Try.underlying9
  obtain rfl | rfl : i = 0 ∨ i = 1 := by omega
  · exact isU8_out h0
  · exact isU8_out h1

theorem rd_frame {W : World} {g : Nat} (f : Fr) (h : Bk W g 26 #[.int .i64 f.kind, .int .i64 f.num, .int .i64 f.taken, .string f.body]) : Rd W (g + 1) 4 (some ⟨g, 0, none⟩) 1 f.cells :=
  ⟨rfl, fun _ => ⟨_, rfl, by simp, World.news_of_block h⟩⟩

/-- Send of two bytes at an end that can be. -/
theorem send_two (A : Option Addr) (n c : Nat) (s : Sd) (m : ByteArray) (w : World) (hg : goodB s = true) (hm : m.size = 2) (hln : s.sent.length = n) (hr : Rd w w.heap.size 1 A n (s.sent.map Value.string)) :
    Calls Try.prog 16 #[sideVal (.slice A n c) s, .string m] w fun e w' => ∃ A' c' s' f er, e = .returned (.tuple #[.agg #[.slice A' (s' : Sd).sent.length c', .int .i64 s'.taken, .int .i64 s'.known], .agg #[.int .i64 (f : Fr).kind, .int .i64 f.num, .int .i64 f.taken, .string f.body], .int .i64 er]) ∧
      (er = 40 ∨ (er = 0 ∧ ∃ m, sendS s m = ⟨s', f, 0⟩)) ∧ (∃ B, B = w.heap.size ∧ w'.ownsRow B 9 1 (.slice A' s'.sent.length c') s'.sent.length (s'.sent.map Value.string)) ∧ Below w.heap.size w w' := by
  have hl := (good_parts hg).1
  refine (send_any A n c s m w (by unfold maxLen; omega) hr).mono ?_
  rintro e w2 ⟨A2, c2, rfl, hc2, hm2, hown, hb2⟩
  refine ⟨A2, c2, (sendS s m).s, (sendS s m).f, (sendS s m).e, rfl, ?_, ⟨_, rfl, hown⟩, hb2⟩
  have hf : fitsB m = true := by simp [fitsB, hm]
  unfold sendS
  rw [if_neg (by simp [hg]), if_neg (by simp [hf])]
  by_cases h256 : s.sent.length = 256
  · rw [if_pos h256]; exact .inl rfl
  · rw [if_neg h256]; exact .inr ⟨rfl, m, by rw [if_neg (by simp [hg]), if_neg (by simp [hf]), if_neg h256]⟩

/-- Behind the send. -/
def SentAt (V1 : World) (s : Sd) (p q e : Value) (wx : World) : Prop :=
  ∃ g h A' c' s' f er, p = .pointer (some ⟨g, 0, none⟩) ∧ q = .pointer (some ⟨h, 0, none⟩) ∧ e = .int .i64 er ∧ (er = 40 ∨ (er = 0 ∧ ∃ m, sendS s m = ⟨s', f, 0⟩)) ∧ V1.heap.size ≤ g ∧ V1.heap.size ≤ h ∧
    (wx.cell? ⟨g, 0, none⟩ = some (.slice A' (s' : Sd).sent.length c') ∧ wx.cell? ⟨g, 1, none⟩ = some (.int .i64 s'.taken) ∧ wx.cell? ⟨g, 2, none⟩ = some (.int .i64 s'.known)) ∧
    (wx.cell? ⟨h, 0, none⟩ = some (.int .i64 (f : Fr).kind) ∧ wx.cell? ⟨h, 1, none⟩ = some (.int .i64 f.num) ∧ wx.cell? ⟨h, 2, none⟩ = some (.int .i64 f.taken) ∧ wx.cell? ⟨h, 3, none⟩ = some (.string f.body)) ∧
    wx.ownsRow V1.heap.size 9 1 (.slice A' s'.sent.length c') s'.sent.length (s'.sent.map Value.string) ∧ Below V1.heap.size V1 wx

section
variable {V1 w2 : World} {s s' : Sd} {A' : Option Addr} {c' Bz g h : Nat} {f : Fr} {er : Int}
theorem sent1 (hc : er = 40 ∨ (er = 0 ∧ ∃ m, sendS s m = ⟨s', f, 0⟩)) (ho : w2.ownsRow Bz 9 1 (.slice A' s'.sent.length c') s'.sent.length (s'.sent.map Value.string)) (hz : V1.heap.size ≤ Bz) (hb : Below V1.heap.size V1 w2) :
    SentAt V1 s (.pointer (some ⟨w2.heap.size, 0, none⟩)) (.pointer (some ⟨w2.heap.size + 1, 0, none⟩)) (.int .i64 er) ((w2.alloc (.cells #[.slice A' s'.sent.length c', .int .i64 s'.taken, .int .i64 s'.known] 24)).alloc (.cells #[.int .i64 f.kind, .int .i64 f.num, .int .i64 f.taken, .string f.body] 26)) :=
  ⟨_, _, A', c', s', f, er, rfl, rfl, rfl, hc, hb.size, Nat.le_succ_of_le hb.size, ((Bk.new _ _ _).alloc _).three', (Bk.second _ _ _ _).four', (own_mono ho hz).alloc _ |>.alloc _, (hb.alloc hb.size _).alloc (Nat.le_trans hb.size (by simp)) _⟩
theorem sent2 (hc : er = 40 ∨ (er = 0 ∧ ∃ m, sendS s m = ⟨s', f, 0⟩)) (ho : w2.ownsRow Bz 9 1 (.slice A' s'.sent.length c') s'.sent.length (s'.sent.map Value.string)) (hz : V1.heap.size ≤ Bz) (hb : Below V1.heap.size V1 w2) :
    SentAt V1 s (.pointer (some ⟨w2.heap.size + 1, 0, none⟩)) (.pointer (some ⟨w2.heap.size, 0, none⟩)) (.int .i64 er) ((w2.alloc (.cells #[.int .i64 f.kind, .int .i64 f.num, .int .i64 f.taken, .string f.body] 26)).alloc (.cells #[.slice A' s'.sent.length c', .int .i64 s'.taken, .int .i64 s'.known] 24)) :=
  ⟨_, _, A', c', s', f, er, rfl, rfl, rfl, hc, Nat.le_succ_of_le hb.size, hb.size, (Bk.second _ _ _ _).three', ((Bk.new _ _ _).alloc _).four', (own_mono ho hz).alloc _ |>.alloc _, (hb.alloc hb.size _).alloc (Nat.le_trans hb.size (by simp)) _⟩
theorem sent3 (hc : er = 40 ∨ (er = 0 ∧ ∃ m, sendS s m = ⟨s', f, 0⟩)) (ho : w2.ownsRow Bz 9 1 (.slice A' s'.sent.length c') s'.sent.length (s'.sent.map Value.string)) (hz : V1.heap.size ≤ Bz) (hb : Below V1.heap.size V1 w2)
    (hk : Bk w2 g 24 #[.slice none 0 0, .int .i64 0, .int .i64 0]) (h1 : V1.heap.size ≤ g) (h2 : g < Bz) :
    SentAt V1 s (.pointer (some ⟨g, 0, none⟩)) (.pointer (some ⟨w2.heap.size, 0, none⟩)) (.int .i64 er) ((((w2.setCell ⟨g, 0, none⟩ (.slice A' s'.sent.length c')).setCell ⟨g, 1, none⟩ (.int .i64 s'.taken)).setCell ⟨g, 2, none⟩ (.int .i64 s'.known)).alloc (.cells #[.int .i64 f.kind, .int .i64 f.num, .int .i64 f.taken, .string f.body] 26)) := by
  have hs : (((w2.setCell ⟨g, 0, none⟩ (.slice A' s'.sent.length c')).setCell ⟨g, 1, none⟩ (.int .i64 s'.taken)).setCell ⟨g, 2, none⟩ (.int .i64 s'.known)).heap.size = w2.heap.size := by simp [World.setCell]
  refine ⟨_, _, A', c', s', f, er, rfl, rfl, rfl, hc, h1, hb.size, ((set3_cells hk _ _ _).alloc _).three', (Bk.new' _ _ _ hs.symm).four', own_mono ((ownsRow_setCell_below (ownsRow_setCell_below (ownsRow_setCell_below ho (a := ⟨g, 0, none⟩) h2 _) (a := ⟨g, 1, none⟩) h2 _) (a := ⟨g, 2, none⟩) h2 _).alloc _) hz, (Below.setCell (Below.setCell (Below.setCell hb (p := ⟨g, 0, none⟩) h1 _) (p := ⟨g, 1, none⟩) h1 _) (p := ⟨g, 2, none⟩) h1 _).alloc (by rw [hs]; exact hb.size) _⟩
theorem sent4 (hc : er = 40 ∨ (er = 0 ∧ ∃ m, sendS s m = ⟨s', f, 0⟩)) (ho : w2.ownsRow Bz 9 1 (.slice A' s'.sent.length c') s'.sent.length (s'.sent.map Value.string)) (hz : V1.heap.size ≤ Bz) (hb : Below V1.heap.size V1 w2) (hk' : Bk w2 h 26 #[.int .i64 0, .int .i64 0, .int .i64 0, .string ⟨#[]⟩]) (h3 : V1.heap.size ≤ h) (h4 : h < Bz) :
    SentAt V1 s (.pointer (some ⟨w2.heap.size, 0, none⟩)) (.pointer (some ⟨h, 0, none⟩)) (.int .i64 er) (((((w2.setCell ⟨h, 0, none⟩ (.int .i64 f.kind)).setCell ⟨h, 1, none⟩ (.int .i64 f.num)).setCell ⟨h, 2, none⟩ (.int .i64 f.taken)).setCell ⟨h, 3, none⟩ (.string f.body)).alloc (.cells #[.slice A' s'.sent.length c', .int .i64 s'.taken, .int .i64 s'.known] 24)) := by
  have hs : ((((w2.setCell ⟨h, 0, none⟩ (.int .i64 f.kind)).setCell ⟨h, 1, none⟩ (.int .i64 f.num)).setCell ⟨h, 2, none⟩ (.int .i64 f.taken)).setCell ⟨h, 3, none⟩ (.string f.body)).heap.size = w2.heap.size := by simp [World.setCell]
  refine ⟨_, _, A', c', s', f, er, rfl, rfl, rfl, hc, hb.size, h3, (Bk.new' _ _ _ hs.symm).three', ((set4_cells hk' _ _ _ _).alloc _).four', own_mono ((ownsRow_setCell_below (ownsRow_setCell_below (ownsRow_setCell_below (ownsRow_setCell_below ho (a := ⟨h, 0, none⟩) h4 _) (a := ⟨h, 1, none⟩) h4 _) (a := ⟨h, 2, none⟩) h4 _) (a := ⟨h, 3, none⟩) h4 _).alloc _) hz, (Below.setCell (Below.setCell (Below.setCell (Below.setCell hb (p := ⟨h, 0, none⟩) h3 _) (p := ⟨h, 1, none⟩) h3 _) (p := ⟨h, 2, none⟩) h3 _) (p := ⟨h, 3, none⟩) h3 _).alloc (by rw [hs]; exact hb.size) _⟩
theorem sent5 (hc : er = 40 ∨ (er = 0 ∧ ∃ m, sendS s m = ⟨s', f, 0⟩)) (ho : w2.ownsRow Bz 9 1 (.slice A' s'.sent.length c') s'.sent.length (s'.sent.map Value.string)) (hz : V1.heap.size ≤ Bz) (hb : Below V1.heap.size V1 w2) (hk : Bk w2 g 24 #[.slice none 0 0, .int .i64 0, .int .i64 0]) (h1 : V1.heap.size ≤ g) (h2 : g < Bz) (hk' : Bk w2 h 26 #[.int .i64 0, .int .i64 0, .int .i64 0, .string ⟨#[]⟩]) (h3 : V1.heap.size ≤ h) (h4 : h < Bz) (hne : g ≠ h) :
    SentAt V1 s (.pointer (some ⟨g, 0, none⟩)) (.pointer (some ⟨h, 0, none⟩)) (.int .i64 er) (((((((w2.setCell ⟨g, 0, none⟩ (.slice A' s'.sent.length c')).setCell ⟨g, 1, none⟩ (.int .i64 s'.taken)).setCell ⟨g, 2, none⟩ (.int .i64 s'.known)).setCell ⟨h, 0, none⟩ (.int .i64 f.kind)).setCell ⟨h, 1, none⟩ (.int .i64 f.num)).setCell ⟨h, 2, none⟩ (.int .i64 f.taken)).setCell ⟨h, 3, none⟩ (.string f.body)) := by
  have k3 := (((((set3_cells hk (.slice A' s'.sent.length c') (.int .i64 s'.taken) (.int .i64 s'.known)).far (p := ⟨h, 0, none⟩) hne (.int .i64 f.kind)).far (p := ⟨h, 1, none⟩) hne (.int .i64 f.num)).far (p := ⟨h, 2, none⟩) hne (.int .i64 f.taken)).far (p := ⟨h, 3, none⟩) hne (.string f.body))
  have k4 := ((hk'.far (p := ⟨g, 0, none⟩) hne.symm (.slice A' s'.sent.length c')).far (p := ⟨g, 1, none⟩) hne.symm (.int .i64 s'.taken)).far (p := ⟨g, 2, none⟩) hne.symm (.int .i64 s'.known)
  exact ⟨_, _, A', c', s', f, er, rfl, rfl, rfl, hc, h1, h3, k3.three', (set4_cells k4 _ _ _ _).four', own_mono (ownsRow_setCell_below (ownsRow_setCell_below (ownsRow_setCell_below (ownsRow_setCell_below (ownsRow_setCell_below (ownsRow_setCell_below (ownsRow_setCell_below ho (a := ⟨g, 0, none⟩) h2 _) (a := ⟨g, 1, none⟩) h2 _) (a := ⟨g, 2, none⟩) h2 _) (a := ⟨h, 0, none⟩) h4 _) (a := ⟨h, 1, none⟩) h4 _) (a := ⟨h, 2, none⟩) h4 _) (a := ⟨h, 3, none⟩) h4 _) hz, (Below.setCell (Below.setCell (Below.setCell (Below.setCell (Below.setCell (Below.setCell (Below.setCell hb (p := ⟨g, 0, none⟩) h1 _) (p := ⟨g, 1, none⟩) h1 _) (p := ⟨g, 2, none⟩) h1 _) (p := ⟨h, 0, none⟩) h3 _) (p := ⟨h, 1, none⟩) h3 _) (p := ⟨h, 2, none⟩) h3 _) (p := ⟨h, 3, none⟩) h3 _)⟩
end

end Go.Proofs.Ytkklghdmnkdofaa
