/-
  No cell of these rows narrows 'for every input' (looked for: loops, veiled, ifaces, maps, wideKeys, modest, calm, conditions, laid).
  DERIVED. THE GIVEN ROWS OF THIS SEAT. 3 by the template 'for every input the law returns true; each argument reads behind the call as it read before'; 0 by the template 'total and deterministic' (their statements: YtneglngdbcefgaaTotals.lean).
  GIVEN WITH THE SEED: the statements are not yours to turn. If you find one false, say at which input.
  Laid BY PROGRAM, IN A SANDBOX (cutbox-rows.mjs): the forced cells as the released guide's own fill.sh prints them over the translation 337d8e96fbe434e1… (all of the seat's roots in one cut). By AI agents, Wed Nov 11 2026. No macro, syntax, notation, axiom, sorry.
-/
import Derived.Test.YtneglngdbcefgaaChecked
import GoSem.Claim
import GoSem.ClaimJoined
import GoSem.ClaimMapViews
import Derived.JoinedTies
import Derived.KernelRfl
namespace Go.Proofs.Ytneglngdbcefgaa
/- THE CELL 'sum', in the pinned program and in every row, IS THE sha256 OF THE DUMP (.gsa) THAT YtneglngdbcefgaaProg.lean LOADS. Nothing in Lean hashes anything: it is a label: what it is worth is what the hold of that sum in a sandbox is worth. -/
noncomputable def Try.pinned : Pinned := { name := "ytneglngdbcefgaa", sum := "337d8e96fbe434e1073ce41198749ee218ed8cf65355cbc813f3c429c3db4914", checked := Try.checked }
namespace Rows
def none {H : Type} : Left H := { results := [], args := [] }

/-- 'laws.FnExactNormalFormsOf': WHATEVER THE INPUT: true; the input reads as it did. -/
def fnExactNormalFormsOfSpec : ChangeSpec := { name := "fnExactNormalFormsOf", fn := fun _ => fun
  | [d1, d2, d3] => { results := [.lit (.bool true)], args := [d1, d2, d3] }
  | _ => none }
def fnExactNormalFormsOfRow : OpenClaim := { program := "ytneglngdbcefgaa", sum := "337d8e96fbe434e1073ce41198749ee218ed8cf65355cbc813f3c429c3db4914", func := "loop.example/g01079/laws.FnExactNormalFormsOf", spec := "fnExactNormalFormsOf", unfollowed := true, recurses := true, apart := false }
def FnExactNormalFormsOfSaid : Prop := fnExactNormalFormsOfRow.holds Try.pinned (OpenSpec.ofChange fnExactNormalFormsOfSpec)

/-- ITS FALSE NEIGHBOUR: 'it returns false'. Refute it at one input. -/
def fnExactNormalFormsOfWrong : ChangeSpec := { name := "fnExactNormalFormsOf", fn := fun _ => fun
  | [d1, d2, d3] => { results := [.lit (.bool false)], args := [d1, d2, d3] }
  | _ => none }
def FnExactNormalFormsOfWrongFalsely : Prop := fnExactNormalFormsOfRow.holds Try.pinned (OpenSpec.ofChange fnExactNormalFormsOfWrong)

/-- 'laws.FnOverlaps': WHATEVER THE INPUT: true; the input reads as it did. -/
def fnOverlapsSpec : ChangeSpec := { name := "fnOverlaps", fn := fun _ => fun
  | [d] => { results := [.lit (.bool true)], args := [d] }
  | _ => none }
def fnOverlapsRow : OpenClaim := { program := "ytneglngdbcefgaa", sum := "337d8e96fbe434e1073ce41198749ee218ed8cf65355cbc813f3c429c3db4914", func := "loop.example/g01079/laws.FnOverlaps", spec := "fnOverlaps", unfollowed := true, recurses := true, apart := false }
def FnOverlapsSaid : Prop := fnOverlapsRow.holds Try.pinned (OpenSpec.ofChange fnOverlapsSpec)

/-- ITS FALSE NEIGHBOUR: 'it returns false'. Refute it at one input. -/
def fnOverlapsWrong : ChangeSpec := { name := "fnOverlaps", fn := fun _ => fun
  | [d] => { results := [.lit (.bool false)], args := [d] }
  | _ => none }
def FnOverlapsWrongFalsely : Prop := fnOverlapsRow.holds Try.pinned (OpenSpec.ofChange fnOverlapsWrong)

/-- 'laws.FnExactHaltDerivation': WHATEVER THE INPUT: true; the input reads as it did. -/
def fnExactHaltDerivationSpec : ChangeSpec := { name := "fnExactHaltDerivation", fn := fun _ => fun
  | [d1, d2, d3] => { results := [.lit (.bool true)], args := [d1, d2, d3] }
  | _ => none }
def fnExactHaltDerivationRow : OpenClaim := { program := "ytneglngdbcefgaa", sum := "337d8e96fbe434e1073ce41198749ee218ed8cf65355cbc813f3c429c3db4914", func := "loop.example/g01079/laws.FnExactHaltDerivation", spec := "fnExactHaltDerivation", unfollowed := true, recurses := true, apart := false }
def FnExactHaltDerivationSaid : Prop := fnExactHaltDerivationRow.holds Try.pinned (OpenSpec.ofChange fnExactHaltDerivationSpec)

/-- ITS FALSE NEIGHBOUR: 'it returns false'. Refute it at one input. -/
def fnExactHaltDerivationWrong : ChangeSpec := { name := "fnExactHaltDerivation", fn := fun _ => fun
  | [d1, d2, d3] => { results := [.lit (.bool false)], args := [d1, d2, d3] }
  | _ => none }
def FnExactHaltDerivationWrongFalsely : Prop := fnExactHaltDerivationRow.holds Try.pinned (OpenSpec.ofChange fnExactHaltDerivationWrong)

/- THE SECOND FORM. 'bulk': how many values and letters a reading holds, each counted each time it is reached (what is shared counts as often as it is met; a slice's spare places count too). A statement '..UptoSaid' is the law's where the arguments, and the package variables that the reading takes, are together of bulk at most 1048576: NARROWER than '..Said'. Prove '..Said' where nothing that the law and all that it calls make is longer than what came in: it says more and counts as full. Else prove '..UptoSaid'. A law counts once. -/
mutual
def uptoBulk {H : Type} : DataW H → Nat
  | .lit (.string bytes) => bytes.length + 1
  | .lit _ => 1
  | .nil => 1
  | .ptr d => uptoBulk d + 1
  | .slice elems spare => uptoBulkAll elems + uptoBulkAll spare + 1
  | .agg parts => uptoBulkAll parts + 1
  | .iface _ d => uptoBulk d + 1
  | .map entries => uptoBulkEntries entries + 1
  | .held _ => 1
def uptoBulkAll {H : Type} : List (DataW H) → Nat
  | [] => 0
  | d :: r => uptoBulk d + uptoBulkAll r
def uptoBulkEntries {H : Type} : List (Lit × DataW H) → Nat
  | [] => 0
  | x :: r => uptoBulkEntry x + uptoBulkEntries r
def uptoBulkEntry {H : Type} : Lit × DataW H → Nat
  | (.string bytes, d) => bytes.length + uptoBulk d + 1
  | (_, d) => uptoBulk d + 1
 end
def uptoSmall : (H : Type) → List (DataW H) → Bool := fun _ ds => decide (uptoBulkAll ds ≤ 1048576)
def OpenSpec.upto (s : _root_.Go.ChangeSpec) : _root_.Go.OpenSpec := { _root_.Go.OpenSpec.ofChange s with cond := some uptoSmall }

/-- 'laws.FnExactNormalFormsOf', WHERE WHAT IT READS IS OF BULK AT MOST 1048576: true; the input reads as it did. -/
def fnExactNormalFormsOfUptoRow : OpenClaim := { program := "ytneglngdbcefgaa", sum := "337d8e96fbe434e1073ce41198749ee218ed8cf65355cbc813f3c429c3db4914", func := "loop.example/g01079/laws.FnExactNormalFormsOf", spec := "fnExactNormalFormsOf", unfollowed := true, recurses := true, apart := false, narrowed := true }
def FnExactNormalFormsOfUptoSaid : Prop := fnExactNormalFormsOfUptoRow.holds Try.pinned (OpenSpec.upto fnExactNormalFormsOfSpec)

/-- 'laws.FnOverlaps', WHERE WHAT IT READS IS OF BULK AT MOST 1048576: true; the input reads as it did. -/
def fnOverlapsUptoRow : OpenClaim := { program := "ytneglngdbcefgaa", sum := "337d8e96fbe434e1073ce41198749ee218ed8cf65355cbc813f3c429c3db4914", func := "loop.example/g01079/laws.FnOverlaps", spec := "fnOverlaps", unfollowed := true, recurses := true, apart := false, narrowed := true }
def FnOverlapsUptoSaid : Prop := fnOverlapsUptoRow.holds Try.pinned (OpenSpec.upto fnOverlapsSpec)

/-- 'laws.FnExactHaltDerivation', WHERE WHAT IT READS IS OF BULK AT MOST 1048576: true; the input reads as it did. -/
def fnExactHaltDerivationUptoRow : OpenClaim := { program := "ytneglngdbcefgaa", sum := "337d8e96fbe434e1073ce41198749ee218ed8cf65355cbc813f3c429c3db4914", func := "loop.example/g01079/laws.FnExactHaltDerivation", spec := "fnExactHaltDerivation", unfollowed := true, recurses := true, apart := false, narrowed := true }
def FnExactHaltDerivationUptoSaid : Prop := fnExactHaltDerivationUptoRow.holds Try.pinned (OpenSpec.upto fnExactHaltDerivationSpec)

end Rows
end Go.Proofs.Ytneglngdbcefgaa
