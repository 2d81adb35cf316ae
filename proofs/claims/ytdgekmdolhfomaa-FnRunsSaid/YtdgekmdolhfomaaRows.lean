/-
  No cell of these rows narrows 'for every input' (looked for: loops, veiled, ifaces, maps, wideKeys, modest, calm, conditions, laid).
  DERIVED. THE GIVEN ROWS OF THIS SEAT. 4 by the template 'for every input the law returns true; each argument reads behind the call as it read before'; 0 by the template 'total and deterministic' (their statements: YtdgekmdolhfomaaTotals.lean).
  GIVEN WITH THE SEED: the statements are not yours to turn. If you find one false, say at which input.
  Laid BY PROGRAM, IN A SANDBOX (cutbox-rows.mjs): the forced cells as the released guide's own fill.sh prints them over the translation 38e50bc462f1ec80… (all of the seat's roots in one cut). By AI agents, Wed Nov 11 2026. No macro, syntax, notation, axiom, sorry.
-/
import Derived.Test.YtdgekmdolhfomaaChecked
import GoSem.Claim
import GoSem.ClaimJoined
import GoSem.ClaimMapViews
import Derived.JoinedTies
import Derived.KernelRfl
namespace Go.Proofs.Ytdgekmdolhfomaa
/- THE CELL 'sum', in the pinned program and in every row, IS THE sha256 OF THE DUMP (.gsa) THAT YtdgekmdolhfomaaProg.lean LOADS. Nothing in Lean hashes anything: it is a label: what it is worth is what the hold of that sum in a sandbox is worth. -/
noncomputable def Try.pinned : Pinned := { name := "ytdgekmdolhfomaa", sum := "38e50bc462f1ec809d0d719a2ac7a3a76a6ba17324b8acb92fa8a0cd699aa7a8", checked := Try.checked }
namespace Rows
def none {H : Type} : Left H := { results := [], args := [] }

/-- 'laws.FnExactSolveTiling': WHATEVER THE INPUT: true; the input reads as it did. -/
def fnExactSolveTilingSpec : ChangeSpec := { name := "fnExactSolveTiling", fn := fun _ => fun
  | [d1, d2, d3, d4] => { results := [.lit (.bool true)], args := [d1, d2, d3, d4] }
  | _ => none }
def fnExactSolveTilingRow : OpenClaim := { program := "ytdgekmdolhfomaa", sum := "38e50bc462f1ec809d0d719a2ac7a3a76a6ba17324b8acb92fa8a0cd699aa7a8", func := "loop.example/g01079/laws.FnExactSolveTiling", spec := "fnExactSolveTiling", unfollowed := true, recurses := true, apart := false }
def FnExactSolveTilingSaid : Prop := fnExactSolveTilingRow.holds Try.pinned (OpenSpec.ofChange fnExactSolveTilingSpec)

/-- ITS FALSE NEIGHBOUR: 'it returns false'. Refute it at one input. -/
def fnExactSolveTilingWrong : ChangeSpec := { name := "fnExactSolveTiling", fn := fun _ => fun
  | [d1, d2, d3, d4] => { results := [.lit (.bool false)], args := [d1, d2, d3, d4] }
  | _ => none }
def FnExactSolveTilingWrongFalsely : Prop := fnExactSolveTilingRow.holds Try.pinned (OpenSpec.ofChange fnExactSolveTilingWrong)

/-- 'laws.FnRuns': WHATEVER THE INPUT: true; the input reads as it did. -/
def fnRunsSpec : ChangeSpec := { name := "fnRuns", fn := fun _ => fun
  | [d1, d2] => { results := [.lit (.bool true)], args := [d1, d2] }
  | _ => none }
def fnRunsRow : OpenClaim := { program := "ytdgekmdolhfomaa", sum := "38e50bc462f1ec809d0d719a2ac7a3a76a6ba17324b8acb92fa8a0cd699aa7a8", func := "loop.example/g01079/laws.FnRuns", spec := "fnRuns", unfollowed := true, recurses := true, apart := false }
def FnRunsSaid : Prop := fnRunsRow.holds Try.pinned (OpenSpec.ofChange fnRunsSpec)

/-- ITS FALSE NEIGHBOUR: 'it returns false'. Refute it at one input. -/
def fnRunsWrong : ChangeSpec := { name := "fnRuns", fn := fun _ => fun
  | [d1, d2] => { results := [.lit (.bool false)], args := [d1, d2] }
  | _ => none }
def FnRunsWrongFalsely : Prop := fnRunsRow.holds Try.pinned (OpenSpec.ofChange fnRunsWrong)

/-- 'laws.FnOverlaps': WHATEVER THE INPUT: true; the input reads as it did. -/
def fnOverlapsSpec : ChangeSpec := { name := "fnOverlaps", fn := fun _ => fun
  | [d] => { results := [.lit (.bool true)], args := [d] }
  | _ => none }
def fnOverlapsRow : OpenClaim := { program := "ytdgekmdolhfomaa", sum := "38e50bc462f1ec809d0d719a2ac7a3a76a6ba17324b8acb92fa8a0cd699aa7a8", func := "loop.example/g01079/laws.FnOverlaps", spec := "fnOverlaps", unfollowed := true, recurses := true, apart := false }
def FnOverlapsSaid : Prop := fnOverlapsRow.holds Try.pinned (OpenSpec.ofChange fnOverlapsSpec)

/-- ITS FALSE NEIGHBOUR: 'it returns false'. Refute it at one input. -/
def fnOverlapsWrong : ChangeSpec := { name := "fnOverlaps", fn := fun _ => fun
  | [d] => { results := [.lit (.bool false)], args := [d] }
  | _ => none }
def FnOverlapsWrongFalsely : Prop := fnOverlapsRow.holds Try.pinned (OpenSpec.ofChange fnOverlapsWrong)

/-- 'laws.FnExactNormalFormsOf': WHATEVER THE INPUT: true; the input reads as it did. -/
def fnExactNormalFormsOfSpec : ChangeSpec := { name := "fnExactNormalFormsOf", fn := fun _ => fun
  | [d1, d2, d3] => { results := [.lit (.bool true)], args := [d1, d2, d3] }
  | _ => none }
def fnExactNormalFormsOfRow : OpenClaim := { program := "ytdgekmdolhfomaa", sum := "38e50bc462f1ec809d0d719a2ac7a3a76a6ba17324b8acb92fa8a0cd699aa7a8", func := "loop.example/g01079/laws.FnExactNormalFormsOf", spec := "fnExactNormalFormsOf", unfollowed := true, recurses := true, apart := false }
def FnExactNormalFormsOfSaid : Prop := fnExactNormalFormsOfRow.holds Try.pinned (OpenSpec.ofChange fnExactNormalFormsOfSpec)

/-- ITS FALSE NEIGHBOUR: 'it returns false'. Refute it at one input. -/
def fnExactNormalFormsOfWrong : ChangeSpec := { name := "fnExactNormalFormsOf", fn := fun _ => fun
  | [d1, d2, d3] => { results := [.lit (.bool false)], args := [d1, d2, d3] }
  | _ => none }
def FnExactNormalFormsOfWrongFalsely : Prop := fnExactNormalFormsOfRow.holds Try.pinned (OpenSpec.ofChange fnExactNormalFormsOfWrong)

/- THE SECOND FORM. 'bulk': how many values and letters a reading holds, each counted each time it is reached (what is shared counts as often as it is met; a slice's spare places count too). A statement '..UptoSaid' is the law's where the arguments, and the package variables that the reading takes, are together of bulk at most 1048576: NARROWER than '..Said'. Prove '..Said' where nothing that the law and all that it calls make is longer than what came in: it says more and counts as full. Else prove '..UptoSaid'. A law counts once. -/
mutual
def uptoBulk {H : Type} : DataW H → Nat
  | .lit (.string bytes) => bytes.length + 1
  | .lit _ => 1
  | .nil => 1
  | .ptr d => uptoBulk d + 1
  | .slice elems spare => uptoBulkAll elems + uptoBulkAll spare + 1
  | .agg parts => uptoBulkAll parts + 1
  | .iface _ d => uptoBulk d + 1
  | .map entries => uptoBulkEntries entries + 1
  | .held _ => 1
def uptoBulkAll {H : Type} : List (DataW H) → Nat
  | [] => 0
  | d :: r => uptoBulk d + uptoBulkAll r
def uptoBulkEntries {H : Type} : List (Lit × DataW H) → Nat
  | [] => 0
  | x :: r => uptoBulkEntry x + uptoBulkEntries r
def uptoBulkEntry {H : Type} : Lit × DataW H → Nat
  | (.string bytes, d) => bytes.length + uptoBulk d + 1
  | (_, d) => uptoBulk d + 1
 end
def uptoSmall : (H : Type) → List (DataW H) → Bool := fun _ ds => decide (uptoBulkAll ds ≤ 1048576)
def OpenSpec.upto (s : _root_.Go.ChangeSpec) : _root_.Go.OpenSpec := { _root_.Go.OpenSpec.ofChange s with cond := some uptoSmall }

/-- 'laws.FnExactSolveTiling', WHERE WHAT IT READS IS OF BULK AT MOST 1048576: true; the input reads as it did. -/
def fnExactSolveTilingUptoRow : OpenClaim := { program := "ytdgekmdolhfomaa", sum := "38e50bc462f1ec809d0d719a2ac7a3a76a6ba17324b8acb92fa8a0cd699aa7a8", func := "loop.example/g01079/laws.FnExactSolveTiling", spec := "fnExactSolveTiling", unfollowed := true, recurses := true, apart := false, narrowed := true }
def FnExactSolveTilingUptoSaid : Prop := fnExactSolveTilingUptoRow.holds Try.pinned (OpenSpec.upto fnExactSolveTilingSpec)

/-- 'laws.FnRuns', WHERE WHAT IT READS IS OF BULK AT MOST 1048576: true; the input reads as it did. -/
def fnRunsUptoRow : OpenClaim := { program := "ytdgekmdolhfomaa", sum := "38e50bc462f1ec809d0d719a2ac7a3a76a6ba17324b8acb92fa8a0cd699aa7a8", func := "loop.example/g01079/laws.FnRuns", spec := "fnRuns", unfollowed := true, recurses := true, apart := false, narrowed := true }
def FnRunsUptoSaid : Prop := fnRunsUptoRow.holds Try.pinned (OpenSpec.upto fnRunsSpec)

/-- 'laws.FnOverlaps', WHERE WHAT IT READS IS OF BULK AT MOST 1048576: true; the input reads as it did. -/
def fnOverlapsUptoRow : OpenClaim := { program := "ytdgekmdolhfomaa", sum := "38e50bc462f1ec809d0d719a2ac7a3a76a6ba17324b8acb92fa8a0cd699aa7a8", func := "loop.example/g01079/laws.FnOverlaps", spec := "fnOverlaps", unfollowed := true, recurses := true, apart := false, narrowed := true }
def FnOverlapsUptoSaid : Prop := fnOverlapsUptoRow.holds Try.pinned (OpenSpec.upto fnOverlapsSpec)

/-- 'laws.FnExactNormalFormsOf', WHERE WHAT IT READS IS OF BULK AT MOST 1048576: true; the input reads as it did. -/
def fnExactNormalFormsOfUptoRow : OpenClaim := { program := "ytdgekmdolhfomaa", sum := "38e50bc462f1ec809d0d719a2ac7a3a76a6ba17324b8acb92fa8a0cd699aa7a8", func := "loop.example/g01079/laws.FnExactNormalFormsOf", spec := "fnExactNormalFormsOf", unfollowed := true, recurses := true, apart := false, narrowed := true }
def FnExactNormalFormsOfUptoSaid : Prop := fnExactNormalFormsOfUptoRow.holds Try.pinned (OpenSpec.upto fnExactNormalFormsOfSpec)

end Rows
end Go.Proofs.Ytdgekmdolhfomaa
