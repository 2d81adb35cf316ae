/-
  No cell of these rows narrows 'for every input' (looked for: loops, veiled, ifaces, maps, wideKeys, modest, calm, conditions, laid).
  DERIVED. THE GIVEN ROWS OF THIS SEAT. 3 by the template 'for every input the law returns true; each argument reads behind the call as it read before'; 0 by the template 'total and deterministic' (their statements: YtomiabeodgcmcaaTotals.lean).
  GIVEN WITH THE SEED: the statements are not yours to turn. If you find one false, say at which input.
  Laid BY PROGRAM, IN A SANDBOX (cutbox-rows.mjs): the forced cells as the released guide's own fill.sh prints them over the translation 7b603881939d06a4… (all of the seat's roots in one cut). By AI agents, Wed Nov 11 2026. No macro, syntax, notation, axiom, sorry.
-/
import Derived.Test.YtomiabeodgcmcaaChecked
import GoSem.Claim
import GoSem.ClaimJoined
import GoSem.ClaimMapViews
import Derived.JoinedTies
import Derived.KernelRfl
namespace Go.Proofs.Ytomiabeodgcmcaa
/- THE CELL 'sum', in the pinned program and in every row, IS THE sha256 OF THE DUMP (.gsa) THAT YtomiabeodgcmcaaProg.lean LOADS. Nothing in Lean hashes anything: it is a label: what it is worth is what the hold of that sum in a sandbox is worth. -/
noncomputable def Try.pinned : Pinned := { name := "ytomiabeodgcmcaa", sum := "7b603881939d06a402534ddf819350df464112fcb6e8626a763a8bc4175778c5", checked := Try.checked }
namespace Rows
def none {H : Type} : Left H := { results := [], args := [] }

/-- 'laws.FnExactStepMulti': WHATEVER THE INPUT: true; the input reads as it did. -/
def fnExactStepMultiSpec : ChangeSpec := { name := "fnExactStepMulti", fn := fun _ => fun
  | [d1, d2] => { results := [.lit (.bool true)], args := [d1, d2] }
  | _ => none }
def fnExactStepMultiRow : OpenClaim := { program := "ytomiabeodgcmcaa", sum := "7b603881939d06a402534ddf819350df464112fcb6e8626a763a8bc4175778c5", func := "loop.example/g01079/laws.FnExactStepMulti", spec := "fnExactStepMulti", unfollowed := true, recurses := true, plainKeys := false, apart := false }
def FnExactStepMultiSaid : Prop := fnExactStepMultiRow.holds Try.pinned (OpenSpec.ofChange fnExactStepMultiSpec)

/-- ITS FALSE NEIGHBOUR: 'it returns false'. Refute it at one input. -/
def fnExactStepMultiWrong : ChangeSpec := { name := "fnExactStepMulti", fn := fun _ => fun
  | [d1, d2] => { results := [.lit (.bool false)], args := [d1, d2] }
  | _ => none }
def FnExactStepMultiWrongFalsely : Prop := fnExactStepMultiRow.holds Try.pinned (OpenSpec.ofChange fnExactStepMultiWrong)

/-- 'laws.FnExactRunMulti': WHATEVER THE INPUT: true; the input reads as it did. -/
def fnExactRunMultiSpec : ChangeSpec := { name := "fnExactRunMulti", fn := fun _ => fun
  | [d1, d2, d3] => { results := [.lit (.bool true)], args := [d1, d2, d3] }
  | _ => none }
def fnExactRunMultiRow : OpenClaim := { program := "ytomiabeodgcmcaa", sum := "7b603881939d06a402534ddf819350df464112fcb6e8626a763a8bc4175778c5", func := "loop.example/g01079/laws.FnExactRunMulti", spec := "fnExactRunMulti", unfollowed := true, recurses := true, plainKeys := false, apart := false }
def FnExactRunMultiSaid : Prop := fnExactRunMultiRow.holds Try.pinned (OpenSpec.ofChange fnExactRunMultiSpec)

/-- ITS FALSE NEIGHBOUR: 'it returns false'. Refute it at one input. -/
def fnExactRunMultiWrong : ChangeSpec := { name := "fnExactRunMulti", fn := fun _ => fun
  | [d1, d2, d3] => { results := [.lit (.bool false)], args := [d1, d2, d3] }
  | _ => none }
def FnExactRunMultiWrongFalsely : Prop := fnExactRunMultiRow.holds Try.pinned (OpenSpec.ofChange fnExactRunMultiWrong)

/-- 'laws.FnExactTraceMulti': WHATEVER THE INPUT: true; the input reads as it did. -/
def fnExactTraceMultiSpec : ChangeSpec := { name := "fnExactTraceMulti", fn := fun _ => fun
  | [d1, d2, d3] => { results := [.lit (.bool true)], args := [d1, d2, d3] }
  | _ => none }
def fnExactTraceMultiRow : OpenClaim := { program := "ytomiabeodgcmcaa", sum := "7b603881939d06a402534ddf819350df464112fcb6e8626a763a8bc4175778c5", func := "loop.example/g01079/laws.FnExactTraceMulti", spec := "fnExactTraceMulti", unfollowed := true, recurses := true, plainKeys := false, apart := false }
def FnExactTraceMultiSaid : Prop := fnExactTraceMultiRow.holds Try.pinned (OpenSpec.ofChange fnExactTraceMultiSpec)

/-- ITS FALSE NEIGHBOUR: 'it returns false'. Refute it at one input. -/
def fnExactTraceMultiWrong : ChangeSpec := { name := "fnExactTraceMulti", fn := fun _ => fun
  | [d1, d2, d3] => { results := [.lit (.bool false)], args := [d1, d2, d3] }
  | _ => none }
def FnExactTraceMultiWrongFalsely : Prop := fnExactTraceMultiRow.holds Try.pinned (OpenSpec.ofChange fnExactTraceMultiWrong)

/- THE SECOND FORM. 'bulk': how many values and letters a reading holds, each counted each time it is reached (what is shared counts as often as it is met; a slice's spare places count too). A statement '..UptoSaid' is the law's where the arguments, and the package variables that the reading takes, are together of bulk at most 1048576: NARROWER than '..Said'. Prove '..Said' where nothing that the law and all that it calls make is longer than what came in: it says more and counts as full. Else prove '..UptoSaid'. A law counts once. -/
mutual
def uptoBulk {H : Type} : DataW H → Nat
  | .lit (.string bytes) => bytes.length + 1
  | .lit _ => 1
  | .nil => 1
  | .ptr d => uptoBulk d + 1
  | .slice elems spare => uptoBulkAll elems + uptoBulkAll spare + 1
  | .agg parts => uptoBulkAll parts + 1
  | .iface _ d => uptoBulk d + 1
  | .map entries => uptoBulkEntries entries + 1
  | .held _ => 1
def uptoBulkAll {H : Type} : List (DataW H) → Nat
  | [] => 0
  | d :: r => uptoBulk d + uptoBulkAll r
def uptoBulkEntries {H : Type} : List (Lit × DataW H) → Nat
  | [] => 0
  | x :: r => uptoBulkEntry x + uptoBulkEntries r
def uptoBulkEntry {H : Type} : Lit × DataW H → Nat
  | (.string bytes, d) => bytes.length + uptoBulk d + 1
  | (_, d) => uptoBulk d + 1
 end
def uptoSmall : (H : Type) → List (DataW H) → Bool := fun _ ds => decide (uptoBulkAll ds ≤ 1048576)
def OpenSpec.upto (s : _root_.Go.ChangeSpec) : _root_.Go.OpenSpec := { _root_.Go.OpenSpec.ofChange s with cond := some uptoSmall }

/-- 'laws.FnExactStepMulti', WHERE WHAT IT READS IS OF BULK AT MOST 1048576: true; the input reads as it did. -/
def fnExactStepMultiUptoRow : OpenClaim := { program := "ytomiabeodgcmcaa", sum := "7b603881939d06a402534ddf819350df464112fcb6e8626a763a8bc4175778c5", func := "loop.example/g01079/laws.FnExactStepMulti", spec := "fnExactStepMulti", unfollowed := true, recurses := true, plainKeys := false, apart := false, narrowed := true }
def FnExactStepMultiUptoSaid : Prop := fnExactStepMultiUptoRow.holds Try.pinned (OpenSpec.upto fnExactStepMultiSpec)

/-- 'laws.FnExactRunMulti', WHERE WHAT IT READS IS OF BULK AT MOST 1048576: true; the input reads as it did. -/
def fnExactRunMultiUptoRow : OpenClaim := { program := "ytomiabeodgcmcaa", sum := "7b603881939d06a402534ddf819350df464112fcb6e8626a763a8bc4175778c5", func := "loop.example/g01079/laws.FnExactRunMulti", spec := "fnExactRunMulti", unfollowed := true, recurses := true, plainKeys := false, apart := false, narrowed := true }
def FnExactRunMultiUptoSaid : Prop := fnExactRunMultiUptoRow.holds Try.pinned (OpenSpec.upto fnExactRunMultiSpec)

/-- 'laws.FnExactTraceMulti', WHERE WHAT IT READS IS OF BULK AT MOST 1048576: true; the input reads as it did. -/
def fnExactTraceMultiUptoRow : OpenClaim := { program := "ytomiabeodgcmcaa", sum := "7b603881939d06a402534ddf819350df464112fcb6e8626a763a8bc4175778c5", func := "loop.example/g01079/laws.FnExactTraceMulti", spec := "fnExactTraceMulti", unfollowed := true, recurses := true, plainKeys := false, apart := false, narrowed := true }
def FnExactTraceMultiUptoSaid : Prop := fnExactTraceMultiUptoRow.holds Try.pinned (OpenSpec.upto fnExactTraceMultiSpec)

end Rows
end Go.Proofs.Ytomiabeodgcmcaa
