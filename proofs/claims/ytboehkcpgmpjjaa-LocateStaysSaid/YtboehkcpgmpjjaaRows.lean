/-
  No cell of these rows narrows 'for every input' (looked for: loops, veiled, ifaces, maps, wideKeys, modest, calm, conditions, laid).
  DERIVED. THE GIVEN ROWS OF THIS SEAT. 5 by the template 'for every input the law returns true; each argument reads behind the call as it read before'; 0 by the template 'total and deterministic' (their statements: YtboehkcpgmpjjaaTotals.lean).
  GIVEN WITH THE SEED: the statements are not yours to turn. If you find one false, say at which input.
  Laid BY PROGRAM, IN A SANDBOX (cutbox-rows.mjs): the forced cells as the released guide's own fill.sh prints them over the translation fec8096b1775135a… (all of the seat's roots in one cut). By AI agents, Wed Nov 11 2026. No macro, syntax, notation, axiom, sorry.
-/
import Derived.Test.YtboehkcpgmpjjaaChecked
import GoSem.Claim
import GoSem.ClaimJoined
import GoSem.ClaimMapViews
import Derived.JoinedTies
import Derived.KernelRfl
namespace Go.Proofs.Ytboehkcpgmpjjaa
/- THE CELL 'sum', in the pinned program and in every row, IS THE sha256 OF THE DUMP (.gsa) THAT YtboehkcpgmpjjaaProg.lean LOADS. Nothing in Lean hashes anything: it is a label: what it is worth is what the hold of that sum in a sandbox is worth. -/
noncomputable def Try.pinned : Pinned := { name := "ytboehkcpgmpjjaa", sum := "fec8096b1775135a9d2c1f001918033bc063ccb64f9d0ae66636e11fb7109813", checked := Try.checked }
namespace Rows
def none {H : Type} : Left H := { results := [], args := [] }

/-- 'bulwarklaw14.LocateTurns': WHATEVER THE INPUT: true; the input reads as it did. -/
def locateTurnsSpec : ChangeSpec := { name := "locateTurns", fn := fun _ => fun
  | [d1, d2, d3] => { results := [.lit (.bool true)], args := [d1, d2, d3] }
  | _ => none }
def locateTurnsRow : OpenClaim := { program := "ytboehkcpgmpjjaa", sum := "fec8096b1775135a9d2c1f001918033bc063ccb64f9d0ae66636e11fb7109813", func := "bulwark/bulwarklaw14.LocateTurns", spec := "locateTurns", inPlace := ["slices.overlaps[bulwark/api.Loc]"], unfollowed := true, recurses := true, apart := false }
def LocateTurnsSaid : Prop := locateTurnsRow.holds Try.pinned (OpenSpec.ofChange locateTurnsSpec)

/-- ITS FALSE NEIGHBOUR: 'it returns false'. Refute it at one input. -/
def locateTurnsWrong : ChangeSpec := { name := "locateTurns", fn := fun _ => fun
  | [d1, d2, d3] => { results := [.lit (.bool false)], args := [d1, d2, d3] }
  | _ => none }
def LocateTurnsWrongFalsely : Prop := locateTurnsRow.holds Try.pinned (OpenSpec.ofChange locateTurnsWrong)

/-- 'bulwarklaw14.LocateShorts': WHATEVER THE INPUT: true; the input reads as it did. -/
def locateShortsSpec : ChangeSpec := { name := "locateShorts", fn := fun _ => fun
  | [d1, d2, d3] => { results := [.lit (.bool true)], args := [d1, d2, d3] }
  | _ => none }
def locateShortsRow : OpenClaim := { program := "ytboehkcpgmpjjaa", sum := "fec8096b1775135a9d2c1f001918033bc063ccb64f9d0ae66636e11fb7109813", func := "bulwark/bulwarklaw14.LocateShorts", spec := "locateShorts", inPlace := ["slices.overlaps[bulwark/api.Loc]"], unfollowed := true, recurses := true, apart := false }
def LocateShortsSaid : Prop := locateShortsRow.holds Try.pinned (OpenSpec.ofChange locateShortsSpec)

/-- ITS FALSE NEIGHBOUR: 'it returns false'. Refute it at one input. -/
def locateShortsWrong : ChangeSpec := { name := "locateShorts", fn := fun _ => fun
  | [d1, d2, d3] => { results := [.lit (.bool false)], args := [d1, d2, d3] }
  | _ => none }
def LocateShortsWrongFalsely : Prop := locateShortsRow.holds Try.pinned (OpenSpec.ofChange locateShortsWrong)

/-- 'bulwarklaw14.LocateKeeps': WHATEVER THE INPUT: true; the input reads as it did. -/
def locateKeepsSpec : ChangeSpec := { name := "locateKeeps", fn := fun _ => fun
  | [d1, d2, d3] => { results := [.lit (.bool true)], args := [d1, d2, d3] }
  | _ => none }
def locateKeepsRow : OpenClaim := { program := "ytboehkcpgmpjjaa", sum := "fec8096b1775135a9d2c1f001918033bc063ccb64f9d0ae66636e11fb7109813", func := "bulwark/bulwarklaw14.LocateKeeps", spec := "locateKeeps", inPlace := ["slices.overlaps[bulwark/api.Loc]"], unfollowed := true, recurses := true, apart := false }
def LocateKeepsSaid : Prop := locateKeepsRow.holds Try.pinned (OpenSpec.ofChange locateKeepsSpec)

/-- ITS FALSE NEIGHBOUR: 'it returns false'. Refute it at one input. -/
def locateKeepsWrong : ChangeSpec := { name := "locateKeeps", fn := fun _ => fun
  | [d1, d2, d3] => { results := [.lit (.bool false)], args := [d1, d2, d3] }
  | _ => none }
def LocateKeepsWrongFalsely : Prop := locateKeepsRow.holds Try.pinned (OpenSpec.ofChange locateKeepsWrong)

/-- 'bulwarklaw14.LocateGoods': WHATEVER THE INPUT: true; the input reads as it did. -/
def locateGoodsSpec : ChangeSpec := { name := "locateGoods", fn := fun _ => fun
  | [d1, d2, d3] => { results := [.lit (.bool true)], args := [d1, d2, d3] }
  | _ => none }
def locateGoodsRow : OpenClaim := { program := "ytboehkcpgmpjjaa", sum := "fec8096b1775135a9d2c1f001918033bc063ccb64f9d0ae66636e11fb7109813", func := "bulwark/bulwarklaw14.LocateGoods", spec := "locateGoods", inPlace := ["slices.overlaps[bulwark/api.Loc]"], unfollowed := true, recurses := true, apart := false }
def LocateGoodsSaid : Prop := locateGoodsRow.holds Try.pinned (OpenSpec.ofChange locateGoodsSpec)

/-- ITS FALSE NEIGHBOUR: 'it returns false'. Refute it at one input. -/
def locateGoodsWrong : ChangeSpec := { name := "locateGoods", fn := fun _ => fun
  | [d1, d2, d3] => { results := [.lit (.bool false)], args := [d1, d2, d3] }
  | _ => none }
def LocateGoodsWrongFalsely : Prop := locateGoodsRow.holds Try.pinned (OpenSpec.ofChange locateGoodsWrong)

/-- 'bulwarklaw14.LocateStays': WHATEVER THE INPUT: true; the input reads as it did. -/
def locateStaysSpec : ChangeSpec := { name := "locateStays", fn := fun _ => fun
  | [d1, d2, d3] => { results := [.lit (.bool true)], args := [d1, d2, d3] }
  | _ => none }
def locateStaysRow : OpenClaim := { program := "ytboehkcpgmpjjaa", sum := "fec8096b1775135a9d2c1f001918033bc063ccb64f9d0ae66636e11fb7109813", func := "bulwark/bulwarklaw14.LocateStays", spec := "locateStays", inPlace := ["slices.overlaps[bulwark/api.Loc]"], unfollowed := true, recurses := true, apart := false }
def LocateStaysSaid : Prop := locateStaysRow.holds Try.pinned (OpenSpec.ofChange locateStaysSpec)

/-- ITS FALSE NEIGHBOUR: 'it returns false'. Refute it at one input. -/
def locateStaysWrong : ChangeSpec := { name := "locateStays", fn := fun _ => fun
  | [d1, d2, d3] => { results := [.lit (.bool false)], args := [d1, d2, d3] }
  | _ => none }
def LocateStaysWrongFalsely : Prop := locateStaysRow.holds Try.pinned (OpenSpec.ofChange locateStaysWrong)

/- THE SECOND FORM. 'bulk': how many values and letters a reading holds, each counted each time it is reached (what is shared counts as often as it is met; a slice's spare places count too). A statement '..UptoSaid' is the law's where the arguments, and the package variables that the reading takes, are together of bulk at most 1048576: NARROWER than '..Said'. Prove '..Said' where nothing that the law and all that it calls make is longer than what came in: it says more and counts as full. Else prove '..UptoSaid'. A law counts once. -/
mutual
def uptoBulk {H : Type} : DataW H → Nat
  | .lit (.string bytes) => bytes.length + 1
  | .lit _ => 1
  | .nil => 1
  | .ptr d => uptoBulk d + 1
  | .slice elems spare => uptoBulkAll elems + uptoBulkAll spare + 1
  | .agg parts => uptoBulkAll parts + 1
  | .iface _ d => uptoBulk d + 1
  | .map entries => uptoBulkEntries entries + 1
  | .held _ => 1
def uptoBulkAll {H : Type} : List (DataW H) → Nat
  | [] => 0
  | d :: r => uptoBulk d + uptoBulkAll r
def uptoBulkEntries {H : Type} : List (Lit × DataW H) → Nat
  | [] => 0
  | x :: r => uptoBulkEntry x + uptoBulkEntries r
def uptoBulkEntry {H : Type} : Lit × DataW H → Nat
  | (.string bytes, d) => bytes.length + uptoBulk d + 1
  | (_, d) => uptoBulk d + 1
 end
def uptoSmall : (H : Type) → List (DataW H) → Bool := fun _ ds => decide (uptoBulkAll ds ≤ 1048576)
def OpenSpec.upto (s : _root_.Go.ChangeSpec) : _root_.Go.OpenSpec := { _root_.Go.OpenSpec.ofChange s with cond := some uptoSmall }

/-- 'bulwarklaw14.LocateTurns', WHERE WHAT IT READS IS OF BULK AT MOST 1048576: true; the input reads as it did. -/
def locateTurnsUptoRow : OpenClaim := { program := "ytboehkcpgmpjjaa", sum := "fec8096b1775135a9d2c1f001918033bc063ccb64f9d0ae66636e11fb7109813", func := "bulwark/bulwarklaw14.LocateTurns", spec := "locateTurns", inPlace := ["slices.overlaps[bulwark/api.Loc]"], unfollowed := true, recurses := true, apart := false, narrowed := true }
def LocateTurnsUptoSaid : Prop := locateTurnsUptoRow.holds Try.pinned (OpenSpec.upto locateTurnsSpec)

/-- 'bulwarklaw14.LocateShorts', WHERE WHAT IT READS IS OF BULK AT MOST 1048576: true; the input reads as it did. -/
def locateShortsUptoRow : OpenClaim := { program := "ytboehkcpgmpjjaa", sum := "fec8096b1775135a9d2c1f001918033bc063ccb64f9d0ae66636e11fb7109813", func := "bulwark/bulwarklaw14.LocateShorts", spec := "locateShorts", inPlace := ["slices.overlaps[bulwark/api.Loc]"], unfollowed := true, recurses := true, apart := false, narrowed := true }
def LocateShortsUptoSaid : Prop := locateShortsUptoRow.holds Try.pinned (OpenSpec.upto locateShortsSpec)

/-- 'bulwarklaw14.LocateKeeps', WHERE WHAT IT READS IS OF BULK AT MOST 1048576: true; the input reads as it did. -/
def locateKeepsUptoRow : OpenClaim := { program := "ytboehkcpgmpjjaa", sum := "fec8096b1775135a9d2c1f001918033bc063ccb64f9d0ae66636e11fb7109813", func := "bulwark/bulwarklaw14.LocateKeeps", spec := "locateKeeps", inPlace := ["slices.overlaps[bulwark/api.Loc]"], unfollowed := true, recurses := true, apart := false, narrowed := true }
def LocateKeepsUptoSaid : Prop := locateKeepsUptoRow.holds Try.pinned (OpenSpec.upto locateKeepsSpec)

/-- 'bulwarklaw14.LocateGoods', WHERE WHAT IT READS IS OF BULK AT MOST 1048576: true; the input reads as it did. -/
def locateGoodsUptoRow : OpenClaim := { program := "ytboehkcpgmpjjaa", sum := "fec8096b1775135a9d2c1f001918033bc063ccb64f9d0ae66636e11fb7109813", func := "bulwark/bulwarklaw14.LocateGoods", spec := "locateGoods", inPlace := ["slices.overlaps[bulwark/api.Loc]"], unfollowed := true, recurses := true, apart := false, narrowed := true }
def LocateGoodsUptoSaid : Prop := locateGoodsUptoRow.holds Try.pinned (OpenSpec.upto locateGoodsSpec)

/-- 'bulwarklaw14.LocateStays', WHERE WHAT IT READS IS OF BULK AT MOST 1048576: true; the input reads as it did. -/
def locateStaysUptoRow : OpenClaim := { program := "ytboehkcpgmpjjaa", sum := "fec8096b1775135a9d2c1f001918033bc063ccb64f9d0ae66636e11fb7109813", func := "bulwark/bulwarklaw14.LocateStays", spec := "locateStays", inPlace := ["slices.overlaps[bulwark/api.Loc]"], unfollowed := true, recurses := true, apart := false, narrowed := true }
def LocateStaysUptoSaid : Prop := locateStaysUptoRow.holds Try.pinned (OpenSpec.upto locateStaysSpec)

end Rows
end Go.Proofs.Ytboehkcpgmpjjaa
