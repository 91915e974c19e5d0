/-
  No cell of these rows narrows 'for every input' (looked for: loops, veiled, ifaces, maps, wideKeys, modest, calm, conditions, laid).
  DERIVED. THE GIVEN ROWS OF THIS SEAT. 6 by the template 'for every input the law returns true; each argument reads behind the call as it read before'; 0 by the template 'total and deterministic' (their statements: YtkklghdmnkdofaaTotals.lean).
  GIVEN WITH THE SEED: the statements are not yours to turn. If you find one false, say at which input.
  Laid BY PROGRAM, IN A SANDBOX (cutbox-rows.mjs): the forced cells as the released guide's own fill.sh prints them over the translation 7bb0ab930c4f623b… (all of the seat's roots in one cut). By AI agents, Wed Nov 11 2026. No macro, syntax, notation, axiom, sorry.
-/
import Derived.Test.YtkklghdmnkdofaaChecked
import GoSem.Claim
import GoSem.ClaimJoined
import GoSem.ClaimMapViews
import Derived.JoinedTies
import Derived.KernelRfl
namespace Go.Proofs.Ytkklghdmnkdofaa
/- THE CELL 'sum', in the pinned program and in every row, IS THE sha256 OF THE DUMP (.gsa) THAT YtkklghdmnkdofaaProg.lean LOADS. Nothing in Lean hashes anything: it is a label: what it is worth is what the hold of that sum in a sandbox is worth. -/
noncomputable def Try.pinned : Pinned := { name := "ytkklghdmnkdofaa", sum := "7bb0ab930c4f623b556cbc91e75e246ae0212c18e465b0d400c72b3d4995c6c5", checked := Try.checked }
namespace Rows
def none {H : Type} : Left H := { results := [], args := [] }

/-- 'bulwarklaw08.SessTakes': WHATEVER THE INPUT: true; the input reads as it did. -/
def sessTakesSpec : ChangeSpec := { name := "sessTakes", fn := fun _ => fun
  | [d1, d2] => { results := [.lit (.bool true)], args := [d1, d2] }
  | _ => none }
def sessTakesRow : OpenClaim := { program := "ytkklghdmnkdofaa", sum := "7bb0ab930c4f623b556cbc91e75e246ae0212c18e465b0d400c72b3d4995c6c5", func := "bulwark/bulwarklaw08.SessTakes", spec := "sessTakes", unfollowed := true, recurses := true, apart := false }
def SessTakesSaid : Prop := sessTakesRow.holds Try.pinned (OpenSpec.ofChange sessTakesSpec)

/-- ITS FALSE NEIGHBOUR: 'it returns false'. Refute it at one input. -/
def sessTakesWrong : ChangeSpec := { name := "sessTakes", fn := fun _ => fun
  | [d1, d2] => { results := [.lit (.bool false)], args := [d1, d2] }
  | _ => none }
def SessTakesWrongFalsely : Prop := sessTakesRow.holds Try.pinned (OpenSpec.ofChange sessTakesWrong)

/-- 'bulwarklaw08.SessKeeps': WHATEVER THE INPUT: true; the input reads as it did. -/
def sessKeepsSpec : ChangeSpec := { name := "sessKeeps", fn := fun _ => fun
  | [d1, d2, d3] => { results := [.lit (.bool true)], args := [d1, d2, d3] }
  | _ => none }
def sessKeepsRow : OpenClaim := { program := "ytkklghdmnkdofaa", sum := "7bb0ab930c4f623b556cbc91e75e246ae0212c18e465b0d400c72b3d4995c6c5", func := "bulwark/bulwarklaw08.SessKeeps", spec := "sessKeeps", unfollowed := true, recurses := true, apart := false }
def SessKeepsSaid : Prop := sessKeepsRow.holds Try.pinned (OpenSpec.ofChange sessKeepsSpec)

/-- ITS FALSE NEIGHBOUR: 'it returns false'. Refute it at one input. -/
def sessKeepsWrong : ChangeSpec := { name := "sessKeeps", fn := fun _ => fun
  | [d1, d2, d3] => { results := [.lit (.bool false)], args := [d1, d2, d3] }
  | _ => none }
def SessKeepsWrongFalsely : Prop := sessKeepsRow.holds Try.pinned (OpenSpec.ofChange sessKeepsWrong)

/-- 'bulwarklaw08.SessSends': WHATEVER THE INPUT: true; the input reads as it did. -/
def sessSendsSpec : ChangeSpec := { name := "sessSends", fn := fun _ => fun
  | [d1, d2] => { results := [.lit (.bool true)], args := [d1, d2] }
  | _ => none }
def sessSendsRow : OpenClaim := { program := "ytkklghdmnkdofaa", sum := "7bb0ab930c4f623b556cbc91e75e246ae0212c18e465b0d400c72b3d4995c6c5", func := "bulwark/bulwarklaw08.SessSends", spec := "sessSends", unfollowed := true, recurses := true, apart := false }
def SessSendsSaid : Prop := sessSendsRow.holds Try.pinned (OpenSpec.ofChange sessSendsSpec)

/-- ITS FALSE NEIGHBOUR: 'it returns false'. Refute it at one input. -/
def sessSendsWrong : ChangeSpec := { name := "sessSends", fn := fun _ => fun
  | [d1, d2] => { results := [.lit (.bool false)], args := [d1, d2] }
  | _ => none }
def SessSendsWrongFalsely : Prop := sessSendsRow.holds Try.pinned (OpenSpec.ofChange sessSendsWrong)

/-- 'bulwarklaw08.SessStays': WHATEVER THE INPUT: true; the input reads as it did. -/
def sessStaysSpec : ChangeSpec := { name := "sessStays", fn := fun _ => fun
  | [d1, d2, d3] => { results := [.lit (.bool true)], args := [d1, d2, d3] }
  | _ => none }
def sessStaysRow : OpenClaim := { program := "ytkklghdmnkdofaa", sum := "7bb0ab930c4f623b556cbc91e75e246ae0212c18e465b0d400c72b3d4995c6c5", func := "bulwark/bulwarklaw08.SessStays", spec := "sessStays", unfollowed := true, recurses := true, apart := false }
def SessStaysSaid : Prop := sessStaysRow.holds Try.pinned (OpenSpec.ofChange sessStaysSpec)

/-- ITS FALSE NEIGHBOUR: 'it returns false'. Refute it at one input. -/
def sessStaysWrong : ChangeSpec := { name := "sessStays", fn := fun _ => fun
  | [d1, d2, d3] => { results := [.lit (.bool false)], args := [d1, d2, d3] }
  | _ => none }
def SessStaysWrongFalsely : Prop := sessStaysRow.holds Try.pinned (OpenSpec.ofChange sessStaysWrong)

/-- 'bulwarklaw08.SessOnce': WHATEVER THE INPUT: true; the input reads as it did. -/
def sessOnceSpec : ChangeSpec := { name := "sessOnce", fn := fun _ => fun
  | [d] => { results := [.lit (.bool true)], args := [d] }
  | _ => none }
def sessOnceRow : OpenClaim := { program := "ytkklghdmnkdofaa", sum := "7bb0ab930c4f623b556cbc91e75e246ae0212c18e465b0d400c72b3d4995c6c5", func := "bulwark/bulwarklaw08.SessOnce", spec := "sessOnce", unfollowed := true, recurses := true, apart := false }
def SessOnceSaid : Prop := sessOnceRow.holds Try.pinned (OpenSpec.ofChange sessOnceSpec)

/-- ITS FALSE NEIGHBOUR: 'it returns false'. Refute it at one input. -/
def sessOnceWrong : ChangeSpec := { name := "sessOnce", fn := fun _ => fun
  | [d] => { results := [.lit (.bool false)], args := [d] }
  | _ => none }
def SessOnceWrongFalsely : Prop := sessOnceRow.holds Try.pinned (OpenSpec.ofChange sessOnceWrong)

/-- 'bulwarklaw08.SessMends': WHATEVER THE INPUT: true; the input reads as it did. -/
def sessMendsSpec : ChangeSpec := { name := "sessMends", fn := fun _ => fun
  | [d1, d2] => { results := [.lit (.bool true)], args := [d1, d2] }
  | _ => none }
def sessMendsRow : OpenClaim := { program := "ytkklghdmnkdofaa", sum := "7bb0ab930c4f623b556cbc91e75e246ae0212c18e465b0d400c72b3d4995c6c5", func := "bulwark/bulwarklaw08.SessMends", spec := "sessMends", unfollowed := true, recurses := true, apart := false }
def SessMendsSaid : Prop := sessMendsRow.holds Try.pinned (OpenSpec.ofChange sessMendsSpec)

/-- ITS FALSE NEIGHBOUR: 'it returns false'. Refute it at one input. -/
def sessMendsWrong : ChangeSpec := { name := "sessMends", fn := fun _ => fun
  | [d1, d2] => { results := [.lit (.bool false)], args := [d1, d2] }
  | _ => none }
def SessMendsWrongFalsely : Prop := sessMendsRow.holds Try.pinned (OpenSpec.ofChange sessMendsWrong)

/- THE SECOND FORM. 'bulk': how many values and letters a reading holds, each counted each time it is reached (what is shared counts as often as it is met; a slice's spare places count too). A statement '..UptoSaid' is the law's where the arguments, and the package variables that the reading takes, are together of bulk at most 1048576: NARROWER than '..Said'. Prove '..Said' where nothing that the law and all that it calls make is longer than what came in: it says more and counts as full. Else prove '..UptoSaid'. A law counts once. -/
mutual
def uptoBulk {H : Type} : DataW H → Nat
  | .lit (.string bytes) => bytes.length + 1
  | .lit _ => 1
  | .nil => 1
  | .ptr d => uptoBulk d + 1
  | .slice elems spare => uptoBulkAll elems + uptoBulkAll spare + 1
  | .agg parts => uptoBulkAll parts + 1
  | .iface _ d => uptoBulk d + 1
  | .map entries => uptoBulkEntries entries + 1
  | .held _ => 1
def uptoBulkAll {H : Type} : List (DataW H) → Nat
  | [] => 0
  | d :: r => uptoBulk d + uptoBulkAll r
def uptoBulkEntries {H : Type} : List (Lit × DataW H) → Nat
  | [] => 0
  | x :: r => uptoBulkEntry x + uptoBulkEntries r
def uptoBulkEntry {H : Type} : Lit × DataW H → Nat
  | (.string bytes, d) => bytes.length + uptoBulk d + 1
  | (_, d) => uptoBulk d + 1
 end
def uptoSmall : (H : Type) → List (DataW H) → Bool := fun _ ds => decide (uptoBulkAll ds ≤ 1048576)
def OpenSpec.upto (s : _root_.Go.ChangeSpec) : _root_.Go.OpenSpec := { _root_.Go.OpenSpec.ofChange s with cond := some uptoSmall }

/-- 'bulwarklaw08.SessTakes', WHERE WHAT IT READS IS OF BULK AT MOST 1048576: true; the input reads as it did. -/
def sessTakesUptoRow : OpenClaim := { program := "ytkklghdmnkdofaa", sum := "7bb0ab930c4f623b556cbc91e75e246ae0212c18e465b0d400c72b3d4995c6c5", func := "bulwark/bulwarklaw08.SessTakes", spec := "sessTakes", unfollowed := true, recurses := true, apart := false, narrowed := true }
def SessTakesUptoSaid : Prop := sessTakesUptoRow.holds Try.pinned (OpenSpec.upto sessTakesSpec)

/-- 'bulwarklaw08.SessKeeps', WHERE WHAT IT READS IS OF BULK AT MOST 1048576: true; the input reads as it did. -/
def sessKeepsUptoRow : OpenClaim := { program := "ytkklghdmnkdofaa", sum := "7bb0ab930c4f623b556cbc91e75e246ae0212c18e465b0d400c72b3d4995c6c5", func := "bulwark/bulwarklaw08.SessKeeps", spec := "sessKeeps", unfollowed := true, recurses := true, apart := false, narrowed := true }
def SessKeepsUptoSaid : Prop := sessKeepsUptoRow.holds Try.pinned (OpenSpec.upto sessKeepsSpec)

/-- 'bulwarklaw08.SessSends', WHERE WHAT IT READS IS OF BULK AT MOST 1048576: true; the input reads as it did. -/
def sessSendsUptoRow : OpenClaim := { program := "ytkklghdmnkdofaa", sum := "7bb0ab930c4f623b556cbc91e75e246ae0212c18e465b0d400c72b3d4995c6c5", func := "bulwark/bulwarklaw08.SessSends", spec := "sessSends", unfollowed := true, recurses := true, apart := false, narrowed := true }
def SessSendsUptoSaid : Prop := sessSendsUptoRow.holds Try.pinned (OpenSpec.upto sessSendsSpec)

/-- 'bulwarklaw08.SessStays', WHERE WHAT IT READS IS OF BULK AT MOST 1048576: true; the input reads as it did. -/
def sessStaysUptoRow : OpenClaim := { program := "ytkklghdmnkdofaa", sum := "7bb0ab930c4f623b556cbc91e75e246ae0212c18e465b0d400c72b3d4995c6c5", func := "bulwark/bulwarklaw08.SessStays", spec := "sessStays", unfollowed := true, recurses := true, apart := false, narrowed := true }
def SessStaysUptoSaid : Prop := sessStaysUptoRow.holds Try.pinned (OpenSpec.upto sessStaysSpec)

/-- 'bulwarklaw08.SessOnce', WHERE WHAT IT READS IS OF BULK AT MOST 1048576: true; the input reads as it did. -/
def sessOnceUptoRow : OpenClaim := { program := "ytkklghdmnkdofaa", sum := "7bb0ab930c4f623b556cbc91e75e246ae0212c18e465b0d400c72b3d4995c6c5", func := "bulwark/bulwarklaw08.SessOnce", spec := "sessOnce", unfollowed := true, recurses := true, apart := false, narrowed := true }
def SessOnceUptoSaid : Prop := sessOnceUptoRow.holds Try.pinned (OpenSpec.upto sessOnceSpec)

/-- 'bulwarklaw08.SessMends', WHERE WHAT IT READS IS OF BULK AT MOST 1048576: true; the input reads as it did. -/
def sessMendsUptoRow : OpenClaim := { program := "ytkklghdmnkdofaa", sum := "7bb0ab930c4f623b556cbc91e75e246ae0212c18e465b0d400c72b3d4995c6c5", func := "bulwark/bulwarklaw08.SessMends", spec := "sessMends", unfollowed := true, recurses := true, apart := false, narrowed := true }
def SessMendsUptoSaid : Prop := sessMendsUptoRow.holds Try.pinned (OpenSpec.upto sessMendsSpec)

end Rows
end Go.Proofs.Ytkklghdmnkdofaa
