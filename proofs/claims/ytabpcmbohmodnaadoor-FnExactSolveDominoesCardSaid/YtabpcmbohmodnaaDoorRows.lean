/-
  NARROWER THAN 'FOR EVERY INPUT', by the rows' own cells (each row's printed sentence says how): FnExactSolveDominoes: ifaces, laid.
  DERIVED. THE GIVEN ROWS OF THIS SEAT. 1 by the template 'for every input the law returns true; each argument reads behind the call as it read before'; 0 by the template 'total and deterministic' (their statements: YtabpcmbohmodnaaDoorTotals.lean).
  GIVEN WITH THE SEED: the statements are not yours to turn. If you find one false, say at which input.
  Laid BY PROGRAM, IN A SANDBOX (cutbox-rows.mjs): the forced cells as the released guide's own fill.sh prints them over the translation 5be544f3a60de01d… (all of the seat's roots in one cut). By AI agents, Wed Nov 11 2026. No macro, syntax, notation, axiom, sorry.
-/
import Derived.Test.YtabpcmbohmodnaaDoorChecked
import GoSem.Claim
import GoSem.ClaimJoined
import GoSem.ClaimMapViews
import Derived.JoinedTies
import Derived.KernelRfl
namespace Go.Proofs.YtabpcmbohmodnaaDoor
/- THE CELL 'sum', in the pinned program and in every row, IS THE sha256 OF THE DUMP (.gsa) THAT YtabpcmbohmodnaaDoorProg.lean LOADS. Nothing in Lean hashes anything: it is a label: what it is worth is what the hold of that sum in a sandbox is worth. -/
noncomputable def Tryd.pinned : Pinned := { name := "ytabpcmbohmodnaadoor", sum := "5be544f3a60de01d6989f49e589903e869a593802cdd545f8e9463ac8e312068", checked := Tryd.checked }
namespace Rows
def none {H : Type} : Left H := { results := [], args := [] }

/- WHAT THE LISTED PACKAGE-LEVEL VARIABLES READ AS WHEN THE CALL BEGINS. Each datum BY PROGRAM (the guide's laid-datum.mjs) off the statement by which the dump's own 'gosem.cut.vars' lays the variable. In a bare row this is a premise. The card (YtabpcmbohmodnaaDoorCards.lean) ties it to the program's text. -/
def laid_loop_example_g01079_impl_errNone {H : Type} : DataW H := .iface "*errors.errorString" (.ptr (.agg [.lit (.string [116, 104, 101, 114, 101, 32, 105, 115, 32, 110, 111, 32, 109, 97, 116, 99, 104])]))
def laid_loop_example_g01079_impl_errUnknown {H : Type} : DataW H := .iface "*errors.errorString" (.ptr (.agg [.lit (.string [116, 104, 101, 32, 115, 101, 97, 114, 99, 104, 32, 105, 115, 32, 110, 111, 116, 32, 99, 111, 109, 112, 108, 101, 116, 101])]))

/-- 'laws.FnExactSolveDominoes': WHATEVER THE INPUT: true; the input reads as it did. -/
def fnExactSolveDominoesSpec : ChangeSpec := { name := "fnExactSolveDominoes", vars := ["loop.example/g01079/impl.errNone", "loop.example/g01079/impl.errUnknown"], fn := fun _ => fun
  | [d1, d2, d3, g1, g2] => { results := [.lit (.bool true)], args := [d1, d2, d3], vars := [g1, g2] }
  | _ => none }
def fnExactSolveDominoesRow : OpenClaim := { program := "ytabpcmbohmodnaadoor", sum := "5be544f3a60de01d6989f49e589903e869a593802cdd545f8e9463ac8e312068", func := "loop.example/g01079/laws.FnExactSolveDominoes", spec := "fnExactSolveDominoes", inPlace := ["internal/reflectlite.TypeOf"], unfollowed := true, recurses := true, named := ["loop.example/g01079/impl.errNone", "loop.example/g01079/impl.errUnknown"], ifaces := true, apart := false, laid := [("loop.example/g01079/impl.errNone", laid_loop_example_g01079_impl_errNone), ("loop.example/g01079/impl.errUnknown", laid_loop_example_g01079_impl_errUnknown)] }
def FnExactSolveDominoesSaid : Prop := fnExactSolveDominoesRow.holds Tryd.pinned (OpenSpec.ofChange fnExactSolveDominoesSpec)

/-- ITS FALSE NEIGHBOUR: 'it returns false'. Refute it at one input. -/
def fnExactSolveDominoesWrong : ChangeSpec := { name := "fnExactSolveDominoes", vars := ["loop.example/g01079/impl.errNone", "loop.example/g01079/impl.errUnknown"], fn := fun _ => fun
  | [d1, d2, d3, g1, g2] => { results := [.lit (.bool false)], args := [d1, d2, d3], vars := [g1, g2] }
  | _ => none }
def FnExactSolveDominoesWrongFalsely : Prop := fnExactSolveDominoesRow.holds Tryd.pinned (OpenSpec.ofChange fnExactSolveDominoesWrong)

/- THE SECOND FORM. 'bulk': how many values and letters a reading holds, each counted each time it is reached (what is shared counts as often as it is met; a slice's spare places count too). A statement '..UptoSaid' is the law's where the arguments, and the package variables that the reading takes, are together of bulk at most 1048576: NARROWER than '..Said'. Prove '..Said' where nothing that the law and all that it calls make is longer than what came in: it says more and counts as full. Else prove '..UptoSaid'. A law counts once. -/
mutual
def uptoBulk {H : Type} : DataW H → Nat
  | .lit (.string bytes) => bytes.length + 1
  | .lit _ => 1
  | .nil => 1
  | .ptr d => uptoBulk d + 1
  | .slice elems spare => uptoBulkAll elems + uptoBulkAll spare + 1
  | .agg parts => uptoBulkAll parts + 1
  | .iface _ d => uptoBulk d + 1
  | .map entries => uptoBulkEntries entries + 1
  | .held _ => 1
def uptoBulkAll {H : Type} : List (DataW H) → Nat
  | [] => 0
  | d :: r => uptoBulk d + uptoBulkAll r
def uptoBulkEntries {H : Type} : List (Lit × DataW H) → Nat
  | [] => 0
  | x :: r => uptoBulkEntry x + uptoBulkEntries r
def uptoBulkEntry {H : Type} : Lit × DataW H → Nat
  | (.string bytes, d) => bytes.length + uptoBulk d + 1
  | (_, d) => uptoBulk d + 1
 end
def uptoSmall : (H : Type) → List (DataW H) → Bool := fun _ ds => decide (uptoBulkAll ds ≤ 1048576)
def OpenSpec.upto (s : _root_.Go.ChangeSpec) : _root_.Go.OpenSpec := { _root_.Go.OpenSpec.ofChange s with cond := some uptoSmall }

/-- 'laws.FnExactSolveDominoes', WHERE WHAT IT READS IS OF BULK AT MOST 1048576: true; the input reads as it did. -/
def fnExactSolveDominoesUptoRow : OpenClaim := { program := "ytabpcmbohmodnaadoor", sum := "5be544f3a60de01d6989f49e589903e869a593802cdd545f8e9463ac8e312068", func := "loop.example/g01079/laws.FnExactSolveDominoes", spec := "fnExactSolveDominoes", inPlace := ["internal/reflectlite.TypeOf"], unfollowed := true, recurses := true, named := ["loop.example/g01079/impl.errNone", "loop.example/g01079/impl.errUnknown"], ifaces := true, apart := false, laid := [("loop.example/g01079/impl.errNone", laid_loop_example_g01079_impl_errNone), ("loop.example/g01079/impl.errUnknown", laid_loop_example_g01079_impl_errUnknown)], narrowed := true }
def FnExactSolveDominoesUptoSaid : Prop := fnExactSolveDominoesUptoRow.holds Tryd.pinned (OpenSpec.upto fnExactSolveDominoesSpec)

end Rows
end Go.Proofs.YtabpcmbohmodnaaDoor
