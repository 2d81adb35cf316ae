/-
  No cell of these rows narrows 'for every input' (looked for: loops, veiled, ifaces, maps, wideKeys, modest, calm, conditions, laid).
  DERIVED. THE GIVEN ROWS OF THIS SEAT. 2 by the template 'for every input the law returns true; each argument reads behind the call as it read before'; 0 by the template 'total and deterministic' (their statements: YtlbbchonoomafaaTotals.lean).
  GIVEN WITH THE SEED: the statements are not yours to turn. If you find one false, say at which input.
  Laid BY PROGRAM, IN A SANDBOX (cutbox-rows.mjs): the forced cells as the released guide's own fill.sh prints them over the translation 60ec20b751cbb8a4… (all of the seat's roots in one cut). By AI agents, Wed Nov 11 2026. No macro, syntax, notation, axiom, sorry.
-/
import Derived.Test.YtlbbchonoomafaaChecked
import GoSem.Claim
import GoSem.ClaimJoined
import GoSem.ClaimMapViews
import Derived.JoinedTies
import Derived.KernelRfl
namespace Go.Proofs.Ytlbbchonoomafaa
/- THE CELL 'sum', in the pinned program and in every row, IS THE sha256 OF THE DUMP (.gsa) THAT YtlbbchonoomafaaProg.lean LOADS. Nothing in Lean hashes anything: it is a label: what it is worth is what the hold of that sum in a sandbox is worth. -/
noncomputable def Try.pinned : Pinned := { name := "ytlbbchonoomafaa", sum := "60ec20b751cbb8a411eba2128659b73bb2edb14f4b1054a390b38567aafd9aa4", checked := Try.checked }
namespace Rows
def none {H : Type} : Left H := { results := [], args := [] }

/-- 'laws.FnExactWordsOfSquare': WHATEVER THE INPUT: true; the input reads as it did. -/
def fnExactWordsOfSquareSpec : ChangeSpec := { name := "fnExactWordsOfSquare", fn := fun _ => fun
  | [d] => { results := [.lit (.bool true)], args := [d] }
  | _ => none }
def fnExactWordsOfSquareRow : OpenClaim := { program := "ytlbbchonoomafaa", sum := "60ec20b751cbb8a411eba2128659b73bb2edb14f4b1054a390b38567aafd9aa4", func := "loop.example/g01079/laws.FnExactWordsOfSquare", spec := "fnExactWordsOfSquare", unfollowed := true, recurses := true, apart := false }
def FnExactWordsOfSquareSaid : Prop := fnExactWordsOfSquareRow.holds Try.pinned (OpenSpec.ofChange fnExactWordsOfSquareSpec)

/-- ITS FALSE NEIGHBOUR: 'it returns false'. Refute it at one input. -/
def fnExactWordsOfSquareWrong : ChangeSpec := { name := "fnExactWordsOfSquare", fn := fun _ => fun
  | [d] => { results := [.lit (.bool false)], args := [d] }
  | _ => none }
def FnExactWordsOfSquareWrongFalsely : Prop := fnExactWordsOfSquareRow.holds Try.pinned (OpenSpec.ofChange fnExactWordsOfSquareWrong)

/-- 'laws.FnExactRunOfTiling': WHATEVER THE INPUT: true; the input reads as it did. -/
def fnExactRunOfTilingSpec : ChangeSpec := { name := "fnExactRunOfTiling", fn := fun _ => fun
  | [d1, d2, d3] => { results := [.lit (.bool true)], args := [d1, d2, d3] }
  | _ => none }
def fnExactRunOfTilingRow : OpenClaim := { program := "ytlbbchonoomafaa", sum := "60ec20b751cbb8a411eba2128659b73bb2edb14f4b1054a390b38567aafd9aa4", func := "loop.example/g01079/laws.FnExactRunOfTiling", spec := "fnExactRunOfTiling", unfollowed := true, recurses := true, apart := false }
def FnExactRunOfTilingSaid : Prop := fnExactRunOfTilingRow.holds Try.pinned (OpenSpec.ofChange fnExactRunOfTilingSpec)

/-- ITS FALSE NEIGHBOUR: 'it returns false'. Refute it at one input. -/
def fnExactRunOfTilingWrong : ChangeSpec := { name := "fnExactRunOfTiling", fn := fun _ => fun
  | [d1, d2, d3] => { results := [.lit (.bool false)], args := [d1, d2, d3] }
  | _ => none }
def FnExactRunOfTilingWrongFalsely : Prop := fnExactRunOfTilingRow.holds Try.pinned (OpenSpec.ofChange fnExactRunOfTilingWrong)

/- THE SECOND FORM. 'bulk': how many values and letters a reading holds, each counted each time it is reached (what is shared counts as often as it is met; a slice's spare places count too). A statement '..UptoSaid' is the law's where the arguments, and the package variables that the reading takes, are together of bulk at most 1048576: NARROWER than '..Said'. Prove '..Said' where nothing that the law and all that it calls make is longer than what came in: it says more and counts as full. Else prove '..UptoSaid'. A law counts once. -/
mutual
def uptoBulk {H : Type} : DataW H → Nat
  | .lit (.string bytes) => bytes.length + 1
  | .lit _ => 1
  | .nil => 1
  | .ptr d => uptoBulk d + 1
  | .slice elems spare => uptoBulkAll elems + uptoBulkAll spare + 1
  | .agg parts => uptoBulkAll parts + 1
  | .iface _ d => uptoBulk d + 1
  | .map entries => uptoBulkEntries entries + 1
  | .held _ => 1
def uptoBulkAll {H : Type} : List (DataW H) → Nat
  | [] => 0
  | d :: r => uptoBulk d + uptoBulkAll r
def uptoBulkEntries {H : Type} : List (Lit × DataW H) → Nat
  | [] => 0
  | x :: r => uptoBulkEntry x + uptoBulkEntries r
def uptoBulkEntry {H : Type} : Lit × DataW H → Nat
  | (.string bytes, d) => bytes.length + uptoBulk d + 1
  | (_, d) => uptoBulk d + 1
 end
def uptoSmall : (H : Type) → List (DataW H) → Bool := fun _ ds => decide (uptoBulkAll ds ≤ 1048576)
def OpenSpec.upto (s : _root_.Go.ChangeSpec) : _root_.Go.OpenSpec := { _root_.Go.OpenSpec.ofChange s with cond := some uptoSmall }

/-- 'laws.FnExactWordsOfSquare', WHERE WHAT IT READS IS OF BULK AT MOST 1048576: true; the input reads as it did. -/
def fnExactWordsOfSquareUptoRow : OpenClaim := { program := "ytlbbchonoomafaa", sum := "60ec20b751cbb8a411eba2128659b73bb2edb14f4b1054a390b38567aafd9aa4", func := "loop.example/g01079/laws.FnExactWordsOfSquare", spec := "fnExactWordsOfSquare", unfollowed := true, recurses := true, apart := false, narrowed := true }
def FnExactWordsOfSquareUptoSaid : Prop := fnExactWordsOfSquareUptoRow.holds Try.pinned (OpenSpec.upto fnExactWordsOfSquareSpec)

/-- 'laws.FnExactRunOfTiling', WHERE WHAT IT READS IS OF BULK AT MOST 1048576: true; the input reads as it did. -/
def fnExactRunOfTilingUptoRow : OpenClaim := { program := "ytlbbchonoomafaa", sum := "60ec20b751cbb8a411eba2128659b73bb2edb14f4b1054a390b38567aafd9aa4", func := "loop.example/g01079/laws.FnExactRunOfTiling", spec := "fnExactRunOfTiling", unfollowed := true, recurses := true, apart := false, narrowed := true }
def FnExactRunOfTilingUptoSaid : Prop := fnExactRunOfTilingUptoRow.holds Try.pinned (OpenSpec.upto fnExactRunOfTilingSpec)

end Rows
end Go.Proofs.Ytlbbchonoomafaa
