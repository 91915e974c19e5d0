/-
  No cell of these rows narrows 'for every input' (looked for: loops, veiled, ifaces, maps, wideKeys, modest, calm, conditions, laid).
  DERIVED. THE GIVEN ROWS OF THIS SEAT. 6 by the template 'for every input the law returns true; each argument reads behind the call as it read before'; 0 by the template 'total and deterministic' (their statements: YtiapbgbbeakoiaaTotals.lean).
  GIVEN WITH THE SEED: the statements are not yours to turn. If you find one false, say at which input.
  Laid BY PROGRAM, IN A SANDBOX (cutbox-rows.mjs): the forced cells as the released guide's own fill.sh prints them over the translation a03e412d4d334fcd… (all of the seat's roots in one cut). By AI agents, Wed Nov 11 2026. No macro, syntax, notation, axiom, sorry.
-/
import Derived.Test.YtiapbgbbeakoiaaChecked
import GoSem.Claim
import GoSem.ClaimJoined
import GoSem.ClaimMapViews
import Derived.JoinedTies
import Derived.KernelRfl
namespace Go.Proofs.Ytiapbgbbeakoiaa
/- THE CELL 'sum', in the pinned program and in every row, IS THE sha256 OF THE DUMP (.gsa) THAT YtiapbgbbeakoiaaProg.lean LOADS. Nothing in Lean hashes anything: it is a label: what it is worth is what the hold of that sum in a sandbox is worth. -/
noncomputable def Try.pinned : Pinned := { name := "ytiapbgbbeakoiaa", sum := "a03e412d4d334fcd34bd4190a3ca3bf94ec9f1b71985f86fb5d2248352ea3c3e", checked := Try.checked }
namespace Rows
def none {H : Type} : Left H := { results := [], args := [] }

/-- 'bulwarklaw13.BookAdds': WHATEVER THE INPUT: true; the input reads as it did. -/
def bookAddsSpec : ChangeSpec := { name := "bookAdds", fn := fun _ => fun
  | [d1, d2, d3] => { results := [.lit (.bool true)], args := [d1, d2, d3] }
  | _ => none }
def bookAddsRow : OpenClaim := { program := "ytiapbgbbeakoiaa", sum := "a03e412d4d334fcd34bd4190a3ca3bf94ec9f1b71985f86fb5d2248352ea3c3e", func := "bulwark/bulwarklaw13.BookAdds", spec := "bookAdds", inPlace := ["slices.overlaps[bulwark/api.Pos]"], unfollowed := true, recurses := true, apart := false }
def BookAddsSaid : Prop := bookAddsRow.holds Try.pinned (OpenSpec.ofChange bookAddsSpec)

/-- ITS FALSE NEIGHBOUR: 'it returns false'. Refute it at one input. -/
def bookAddsWrong : ChangeSpec := { name := "bookAdds", fn := fun _ => fun
  | [d1, d2, d3] => { results := [.lit (.bool false)], args := [d1, d2, d3] }
  | _ => none }
def BookAddsWrongFalsely : Prop := bookAddsRow.holds Try.pinned (OpenSpec.ofChange bookAddsWrong)

/-- 'bulwarklaw13.BookKeeps': WHATEVER THE INPUT: true; the input reads as it did. -/
def bookKeepsSpec : ChangeSpec := { name := "bookKeeps", fn := fun _ => fun
  | [d1, d2, d3] => { results := [.lit (.bool true)], args := [d1, d2, d3] }
  | _ => none }
def bookKeepsRow : OpenClaim := { program := "ytiapbgbbeakoiaa", sum := "a03e412d4d334fcd34bd4190a3ca3bf94ec9f1b71985f86fb5d2248352ea3c3e", func := "bulwark/bulwarklaw13.BookKeeps", spec := "bookKeeps", inPlace := ["slices.overlaps[bulwark/api.Pos]", "slices.overlaps[bulwark/api.Order]"], unfollowed := true, recurses := true, apart := false }
def BookKeepsSaid : Prop := bookKeepsRow.holds Try.pinned (OpenSpec.ofChange bookKeepsSpec)

/-- ITS FALSE NEIGHBOUR: 'it returns false'. Refute it at one input. -/
def bookKeepsWrong : ChangeSpec := { name := "bookKeeps", fn := fun _ => fun
  | [d1, d2, d3] => { results := [.lit (.bool false)], args := [d1, d2, d3] }
  | _ => none }
def BookKeepsWrongFalsely : Prop := bookKeepsRow.holds Try.pinned (OpenSpec.ofChange bookKeepsWrong)

/-- 'bulwarklaw13.BookBack': WHATEVER THE INPUT: true; the input reads as it did. -/
def bookBackSpec : ChangeSpec := { name := "bookBack", fn := fun _ => fun
  | [d1, d2, d3] => { results := [.lit (.bool true)], args := [d1, d2, d3] }
  | _ => none }
def bookBackRow : OpenClaim := { program := "ytiapbgbbeakoiaa", sum := "a03e412d4d334fcd34bd4190a3ca3bf94ec9f1b71985f86fb5d2248352ea3c3e", func := "bulwark/bulwarklaw13.BookBack", spec := "bookBack", inPlace := ["slices.overlaps[bulwark/api.Pos]"], unfollowed := true, recurses := true, apart := false }
def BookBackSaid : Prop := bookBackRow.holds Try.pinned (OpenSpec.ofChange bookBackSpec)

/-- ITS FALSE NEIGHBOUR: 'it returns false'. Refute it at one input. -/
def bookBackWrong : ChangeSpec := { name := "bookBack", fn := fun _ => fun
  | [d1, d2, d3] => { results := [.lit (.bool false)], args := [d1, d2, d3] }
  | _ => none }
def BookBackWrongFalsely : Prop := bookBackRow.holds Try.pinned (OpenSpec.ofChange bookBackWrong)

/-- 'bulwarklaw13.BookGoods': WHATEVER THE INPUT: true; the input reads as it did. -/
def bookGoodsSpec : ChangeSpec := { name := "bookGoods", fn := fun _ => fun
  | [d1, d2, d3] => { results := [.lit (.bool true)], args := [d1, d2, d3] }
  | _ => none }
def bookGoodsRow : OpenClaim := { program := "ytiapbgbbeakoiaa", sum := "a03e412d4d334fcd34bd4190a3ca3bf94ec9f1b71985f86fb5d2248352ea3c3e", func := "bulwark/bulwarklaw13.BookGoods", spec := "bookGoods", inPlace := ["slices.overlaps[bulwark/api.Pos]"], unfollowed := true, recurses := true, apart := false }
def BookGoodsSaid : Prop := bookGoodsRow.holds Try.pinned (OpenSpec.ofChange bookGoodsSpec)

/-- ITS FALSE NEIGHBOUR: 'it returns false'. Refute it at one input. -/
def bookGoodsWrong : ChangeSpec := { name := "bookGoods", fn := fun _ => fun
  | [d1, d2, d3] => { results := [.lit (.bool false)], args := [d1, d2, d3] }
  | _ => none }
def BookGoodsWrongFalsely : Prop := bookGoodsRow.holds Try.pinned (OpenSpec.ofChange bookGoodsWrong)

/-- 'bulwarklaw13.BookTurns': WHATEVER THE INPUT: true; the input reads as it did. -/
def bookTurnsSpec : ChangeSpec := { name := "bookTurns", fn := fun _ => fun
  | [d1, d2, d3] => { results := [.lit (.bool true)], args := [d1, d2, d3] }
  | _ => none }
def bookTurnsRow : OpenClaim := { program := "ytiapbgbbeakoiaa", sum := "a03e412d4d334fcd34bd4190a3ca3bf94ec9f1b71985f86fb5d2248352ea3c3e", func := "bulwark/bulwarklaw13.BookTurns", spec := "bookTurns", inPlace := ["slices.overlaps[bulwark/api.Pos]", "slices.overlaps[bulwark/api.Order]"], unfollowed := true, recurses := true, apart := false }
def BookTurnsSaid : Prop := bookTurnsRow.holds Try.pinned (OpenSpec.ofChange bookTurnsSpec)

/-- ITS FALSE NEIGHBOUR: 'it returns false'. Refute it at one input. -/
def bookTurnsWrong : ChangeSpec := { name := "bookTurns", fn := fun _ => fun
  | [d1, d2, d3] => { results := [.lit (.bool false)], args := [d1, d2, d3] }
  | _ => none }
def BookTurnsWrongFalsely : Prop := bookTurnsRow.holds Try.pinned (OpenSpec.ofChange bookTurnsWrong)

/-- 'bulwarklaw13.BookFills': WHATEVER THE INPUT: true; the input reads as it did. -/
def bookFillsSpec : ChangeSpec := { name := "bookFills", fn := fun _ => fun
  | [d1, d2, d3] => { results := [.lit (.bool true)], args := [d1, d2, d3] }
  | _ => none }
def bookFillsRow : OpenClaim := { program := "ytiapbgbbeakoiaa", sum := "a03e412d4d334fcd34bd4190a3ca3bf94ec9f1b71985f86fb5d2248352ea3c3e", func := "bulwark/bulwarklaw13.BookFills", spec := "bookFills", inPlace := ["slices.overlaps[bulwark/api.Pos]", "slices.overlaps[bulwark/api.Order]"], unfollowed := true, recurses := true, apart := false }
def BookFillsSaid : Prop := bookFillsRow.holds Try.pinned (OpenSpec.ofChange bookFillsSpec)

/-- ITS FALSE NEIGHBOUR: 'it returns false'. Refute it at one input. -/
def bookFillsWrong : ChangeSpec := { name := "bookFills", fn := fun _ => fun
  | [d1, d2, d3] => { results := [.lit (.bool false)], args := [d1, d2, d3] }
  | _ => none }
def BookFillsWrongFalsely : Prop := bookFillsRow.holds Try.pinned (OpenSpec.ofChange bookFillsWrong)

/- THE SECOND FORM. 'bulk': how many values and letters a reading holds, each counted each time it is reached (what is shared counts as often as it is met; a slice's spare places count too). A statement '..UptoSaid' is the law's where the arguments, and the package variables that the reading takes, are together of bulk at most 1048576: NARROWER than '..Said'. Prove '..Said' where nothing that the law and all that it calls make is longer than what came in: it says more and counts as full. Else prove '..UptoSaid'. A law counts once. -/
mutual
def uptoBulk {H : Type} : DataW H → Nat
  | .lit (.string bytes) => bytes.length + 1
  | .lit _ => 1
  | .nil => 1
  | .ptr d => uptoBulk d + 1
  | .slice elems spare => uptoBulkAll elems + uptoBulkAll spare + 1
  | .agg parts => uptoBulkAll parts + 1
  | .iface _ d => uptoBulk d + 1
  | .map entries => uptoBulkEntries entries + 1
  | .held _ => 1
def uptoBulkAll {H : Type} : List (DataW H) → Nat
  | [] => 0
  | d :: r => uptoBulk d + uptoBulkAll r
def uptoBulkEntries {H : Type} : List (Lit × DataW H) → Nat
  | [] => 0
  | x :: r => uptoBulkEntry x + uptoBulkEntries r
def uptoBulkEntry {H : Type} : Lit × DataW H → Nat
  | (.string bytes, d) => bytes.length + uptoBulk d + 1
  | (_, d) => uptoBulk d + 1
 end
def uptoSmall : (H : Type) → List (DataW H) → Bool := fun _ ds => decide (uptoBulkAll ds ≤ 1048576)
def OpenSpec.upto (s : _root_.Go.ChangeSpec) : _root_.Go.OpenSpec := { _root_.Go.OpenSpec.ofChange s with cond := some uptoSmall }

/-- 'bulwarklaw13.BookAdds', WHERE WHAT IT READS IS OF BULK AT MOST 1048576: true; the input reads as it did. -/
def bookAddsUptoRow : OpenClaim := { program := "ytiapbgbbeakoiaa", sum := "a03e412d4d334fcd34bd4190a3ca3bf94ec9f1b71985f86fb5d2248352ea3c3e", func := "bulwark/bulwarklaw13.BookAdds", spec := "bookAdds", inPlace := ["slices.overlaps[bulwark/api.Pos]"], unfollowed := true, recurses := true, apart := false, narrowed := true }
def BookAddsUptoSaid : Prop := bookAddsUptoRow.holds Try.pinned (OpenSpec.upto bookAddsSpec)

/-- 'bulwarklaw13.BookKeeps', WHERE WHAT IT READS IS OF BULK AT MOST 1048576: true; the input reads as it did. -/
def bookKeepsUptoRow : OpenClaim := { program := "ytiapbgbbeakoiaa", sum := "a03e412d4d334fcd34bd4190a3ca3bf94ec9f1b71985f86fb5d2248352ea3c3e", func := "bulwark/bulwarklaw13.BookKeeps", spec := "bookKeeps", inPlace := ["slices.overlaps[bulwark/api.Pos]", "slices.overlaps[bulwark/api.Order]"], unfollowed := true, recurses := true, apart := false, narrowed := true }
def BookKeepsUptoSaid : Prop := bookKeepsUptoRow.holds Try.pinned (OpenSpec.upto bookKeepsSpec)

/-- 'bulwarklaw13.BookBack', WHERE WHAT IT READS IS OF BULK AT MOST 1048576: true; the input reads as it did. -/
def bookBackUptoRow : OpenClaim := { program := "ytiapbgbbeakoiaa", sum := "a03e412d4d334fcd34bd4190a3ca3bf94ec9f1b71985f86fb5d2248352ea3c3e", func := "bulwark/bulwarklaw13.BookBack", spec := "bookBack", inPlace := ["slices.overlaps[bulwark/api.Pos]"], unfollowed := true, recurses := true, apart := false, narrowed := true }
def BookBackUptoSaid : Prop := bookBackUptoRow.holds Try.pinned (OpenSpec.upto bookBackSpec)

/-- 'bulwarklaw13.BookGoods', WHERE WHAT IT READS IS OF BULK AT MOST 1048576: true; the input reads as it did. -/
def bookGoodsUptoRow : OpenClaim := { program := "ytiapbgbbeakoiaa", sum := "a03e412d4d334fcd34bd4190a3ca3bf94ec9f1b71985f86fb5d2248352ea3c3e", func := "bulwark/bulwarklaw13.BookGoods", spec := "bookGoods", inPlace := ["slices.overlaps[bulwark/api.Pos]"], unfollowed := true, recurses := true, apart := false, narrowed := true }
def BookGoodsUptoSaid : Prop := bookGoodsUptoRow.holds Try.pinned (OpenSpec.upto bookGoodsSpec)

/-- 'bulwarklaw13.BookTurns', WHERE WHAT IT READS IS OF BULK AT MOST 1048576: true; the input reads as it did. -/
def bookTurnsUptoRow : OpenClaim := { program := "ytiapbgbbeakoiaa", sum := "a03e412d4d334fcd34bd4190a3ca3bf94ec9f1b71985f86fb5d2248352ea3c3e", func := "bulwark/bulwarklaw13.BookTurns", spec := "bookTurns", inPlace := ["slices.overlaps[bulwark/api.Pos]", "slices.overlaps[bulwark/api.Order]"], unfollowed := true, recurses := true, apart := false, narrowed := true }
def BookTurnsUptoSaid : Prop := bookTurnsUptoRow.holds Try.pinned (OpenSpec.upto bookTurnsSpec)

/-- 'bulwarklaw13.BookFills', WHERE WHAT IT READS IS OF BULK AT MOST 1048576: true; the input reads as it did. -/
def bookFillsUptoRow : OpenClaim := { program := "ytiapbgbbeakoiaa", sum := "a03e412d4d334fcd34bd4190a3ca3bf94ec9f1b71985f86fb5d2248352ea3c3e", func := "bulwark/bulwarklaw13.BookFills", spec := "bookFills", inPlace := ["slices.overlaps[bulwark/api.Pos]", "slices.overlaps[bulwark/api.Order]"], unfollowed := true, recurses := true, apart := false, narrowed := true }
def BookFillsUptoSaid : Prop := bookFillsUptoRow.holds Try.pinned (OpenSpec.upto bookFillsSpec)

end Rows
end Go.Proofs.Ytiapbgbbeakoiaa
