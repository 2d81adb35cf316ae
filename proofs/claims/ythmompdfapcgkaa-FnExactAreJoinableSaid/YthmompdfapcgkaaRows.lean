/-
  No cell of these rows narrows 'for every input' (looked for: loops, veiled, ifaces, maps, wideKeys, modest, calm, conditions, laid).
  DERIVED. THE GIVEN ROWS OF THIS SEAT. 5 by the template 'for every input the law returns true; each argument reads behind the call as it read before'; 0 by the template 'total and deterministic' (their statements: YthmompdfapcgkaaTotals.lean).
  GIVEN WITH THE SEED: the statements are not yours to turn. If you find one false, say at which input.
  Laid BY PROGRAM, IN A SANDBOX (cutbox-rows.mjs): the forced cells as the released guide's own fill.sh prints them over the translation c7a529218cda354d… (all of the seat's roots in one cut). By AI agents, Wed Nov 11 2026. No macro, syntax, notation, axiom, sorry.
-/
import Derived.Test.YthmompdfapcgkaaChecked
import GoSem.Claim
import GoSem.ClaimJoined
import GoSem.ClaimMapViews
import Derived.JoinedTies
import Derived.KernelRfl
namespace Go.Proofs.Ythmompdfapcgkaa
/- THE CELL 'sum', in the pinned program and in every row, IS THE sha256 OF THE DUMP (.gsa) THAT YthmompdfapcgkaaProg.lean LOADS. Nothing in Lean hashes anything: it is a label: what it is worth is what the hold of that sum in a sandbox is worth. -/
noncomputable def Try.pinned : Pinned := { name := "ythmompdfapcgkaa", sum := "c7a529218cda354d521c7ecdd75a76250c708ed9570374db5592ad2caf109008", checked := Try.checked }
namespace Rows
def none {H : Type} : Left H := { results := [], args := [] }

/-- 'laws.FnExactCountTilings': WHATEVER THE INPUT: true; the input reads as it did. -/
def fnExactCountTilingsSpec : ChangeSpec := { name := "fnExactCountTilings", fn := fun _ => fun
  | [d1, d2, d3, d4] => { results := [.lit (.bool true)], args := [d1, d2, d3, d4] }
  | _ => none }
def fnExactCountTilingsRow : OpenClaim := { program := "ythmompdfapcgkaa", sum := "c7a529218cda354d521c7ecdd75a76250c708ed9570374db5592ad2caf109008", func := "loop.example/g01079/laws.FnExactCountTilings", spec := "fnExactCountTilings", unfollowed := true, recurses := true, apart := false }
def FnExactCountTilingsSaid : Prop := fnExactCountTilingsRow.holds Try.pinned (OpenSpec.ofChange fnExactCountTilingsSpec)

/-- ITS FALSE NEIGHBOUR: 'it returns false'. Refute it at one input. -/
def fnExactCountTilingsWrong : ChangeSpec := { name := "fnExactCountTilings", fn := fun _ => fun
  | [d1, d2, d3, d4] => { results := [.lit (.bool false)], args := [d1, d2, d3, d4] }
  | _ => none }
def FnExactCountTilingsWrongFalsely : Prop := fnExactCountTilingsRow.holds Try.pinned (OpenSpec.ofChange fnExactCountTilingsWrong)

/-- 'laws.FnExactSolveTiling': WHATEVER THE INPUT: true; the input reads as it did. -/
def fnExactSolveTilingSpec : ChangeSpec := { name := "fnExactSolveTiling", fn := fun _ => fun
  | [d1, d2, d3, d4] => { results := [.lit (.bool true)], args := [d1, d2, d3, d4] }
  | _ => none }
def fnExactSolveTilingRow : OpenClaim := { program := "ythmompdfapcgkaa", sum := "c7a529218cda354d521c7ecdd75a76250c708ed9570374db5592ad2caf109008", func := "loop.example/g01079/laws.FnExactSolveTiling", spec := "fnExactSolveTiling", unfollowed := true, recurses := true, apart := false }
def FnExactSolveTilingSaid : Prop := fnExactSolveTilingRow.holds Try.pinned (OpenSpec.ofChange fnExactSolveTilingSpec)

/-- ITS FALSE NEIGHBOUR: 'it returns false'. Refute it at one input. -/
def fnExactSolveTilingWrong : ChangeSpec := { name := "fnExactSolveTiling", fn := fun _ => fun
  | [d1, d2, d3, d4] => { results := [.lit (.bool false)], args := [d1, d2, d3, d4] }
  | _ => none }
def FnExactSolveTilingWrongFalsely : Prop := fnExactSolveTilingRow.holds Try.pinned (OpenSpec.ofChange fnExactSolveTilingWrong)

/-- 'laws.FnDerivations': WHATEVER THE INPUT: true; the input reads as it did. -/
def fnDerivationsSpec : ChangeSpec := { name := "fnDerivations", fn := fun _ => fun
  | [d1, d2] => { results := [.lit (.bool true)], args := [d1, d2] }
  | _ => none }
def fnDerivationsRow : OpenClaim := { program := "ythmompdfapcgkaa", sum := "c7a529218cda354d521c7ecdd75a76250c708ed9570374db5592ad2caf109008", func := "loop.example/g01079/laws.FnDerivations", spec := "fnDerivations", unfollowed := true, recurses := true, apart := false }
def FnDerivationsSaid : Prop := fnDerivationsRow.holds Try.pinned (OpenSpec.ofChange fnDerivationsSpec)

/-- ITS FALSE NEIGHBOUR: 'it returns false'. Refute it at one input. -/
def fnDerivationsWrong : ChangeSpec := { name := "fnDerivations", fn := fun _ => fun
  | [d1, d2] => { results := [.lit (.bool false)], args := [d1, d2] }
  | _ => none }
def FnDerivationsWrongFalsely : Prop := fnDerivationsRow.holds Try.pinned (OpenSpec.ofChange fnDerivationsWrong)

/-- 'laws.FnExactAreJoinable': WHATEVER THE INPUT: true; the input reads as it did. -/
def fnExactAreJoinableSpec : ChangeSpec := { name := "fnExactAreJoinable", fn := fun _ => fun
  | [d1, d2, d3, d4] => { results := [.lit (.bool true)], args := [d1, d2, d3, d4] }
  | _ => none }
def fnExactAreJoinableRow : OpenClaim := { program := "ythmompdfapcgkaa", sum := "c7a529218cda354d521c7ecdd75a76250c708ed9570374db5592ad2caf109008", func := "loop.example/g01079/laws.FnExactAreJoinable", spec := "fnExactAreJoinable", unfollowed := true, recurses := true, apart := false }
def FnExactAreJoinableSaid : Prop := fnExactAreJoinableRow.holds Try.pinned (OpenSpec.ofChange fnExactAreJoinableSpec)

/-- ITS FALSE NEIGHBOUR: 'it returns false'. Refute it at one input. -/
def fnExactAreJoinableWrong : ChangeSpec := { name := "fnExactAreJoinable", fn := fun _ => fun
  | [d1, d2, d3, d4] => { results := [.lit (.bool false)], args := [d1, d2, d3, d4] }
  | _ => none }
def FnExactAreJoinableWrongFalsely : Prop := fnExactAreJoinableRow.holds Try.pinned (OpenSpec.ofChange fnExactAreJoinableWrong)

/-- 'laws.FnOverlaps': WHATEVER THE INPUT: true; the input reads as it did. -/
def fnOverlapsSpec : ChangeSpec := { name := "fnOverlaps", fn := fun _ => fun
  | [d] => { results := [.lit (.bool true)], args := [d] }
  | _ => none }
def fnOverlapsRow : OpenClaim := { program := "ythmompdfapcgkaa", sum := "c7a529218cda354d521c7ecdd75a76250c708ed9570374db5592ad2caf109008", func := "loop.example/g01079/laws.FnOverlaps", spec := "fnOverlaps", unfollowed := true, recurses := true, apart := false }
def FnOverlapsSaid : Prop := fnOverlapsRow.holds Try.pinned (OpenSpec.ofChange fnOverlapsSpec)

/-- ITS FALSE NEIGHBOUR: 'it returns false'. Refute it at one input. -/
def fnOverlapsWrong : ChangeSpec := { name := "fnOverlaps", fn := fun _ => fun
  | [d] => { results := [.lit (.bool false)], args := [d] }
  | _ => none }
def FnOverlapsWrongFalsely : Prop := fnOverlapsRow.holds Try.pinned (OpenSpec.ofChange fnOverlapsWrong)

/- THE SECOND FORM. 'bulk': how many values and letters a reading holds, each counted each time it is reached (what is shared counts as often as it is met; a slice's spare places count too). A statement '..UptoSaid' is the law's where the arguments, and the package variables that the reading takes, are together of bulk at most 1048576: NARROWER than '..Said'. Prove '..Said' where nothing that the law and all that it calls make is longer than what came in: it says more and counts as full. Else prove '..UptoSaid'. A law counts once. -/
mutual
def uptoBulk {H : Type} : DataW H → Nat
  | .lit (.string bytes) => bytes.length + 1
  | .lit _ => 1
  | .nil => 1
  | .ptr d => uptoBulk d + 1
  | .slice elems spare => uptoBulkAll elems + uptoBulkAll spare + 1
  | .agg parts => uptoBulkAll parts + 1
  | .iface _ d => uptoBulk d + 1
  | .map entries => uptoBulkEntries entries + 1
  | .held _ => 1
def uptoBulkAll {H : Type} : List (DataW H) → Nat
  | [] => 0
  | d :: r => uptoBulk d + uptoBulkAll r
def uptoBulkEntries {H : Type} : List (Lit × DataW H) → Nat
  | [] => 0
  | x :: r => uptoBulkEntry x + uptoBulkEntries r
def uptoBulkEntry {H : Type} : Lit × DataW H → Nat
  | (.string bytes, d) => bytes.length + uptoBulk d + 1
  | (_, d) => uptoBulk d + 1
 end
def uptoSmall : (H : Type) → List (DataW H) → Bool := fun _ ds => decide (uptoBulkAll ds ≤ 1048576)
def OpenSpec.upto (s : _root_.Go.ChangeSpec) : _root_.Go.OpenSpec := { _root_.Go.OpenSpec.ofChange s with cond := some uptoSmall }

/-- 'laws.FnExactCountTilings', WHERE WHAT IT READS IS OF BULK AT MOST 1048576: true; the input reads as it did. -/
def fnExactCountTilingsUptoRow : OpenClaim := { program := "ythmompdfapcgkaa", sum := "c7a529218cda354d521c7ecdd75a76250c708ed9570374db5592ad2caf109008", func := "loop.example/g01079/laws.FnExactCountTilings", spec := "fnExactCountTilings", unfollowed := true, recurses := true, apart := false, narrowed := true }
def FnExactCountTilingsUptoSaid : Prop := fnExactCountTilingsUptoRow.holds Try.pinned (OpenSpec.upto fnExactCountTilingsSpec)

/-- 'laws.FnExactSolveTiling', WHERE WHAT IT READS IS OF BULK AT MOST 1048576: true; the input reads as it did. -/
def fnExactSolveTilingUptoRow : OpenClaim := { program := "ythmompdfapcgkaa", sum := "c7a529218cda354d521c7ecdd75a76250c708ed9570374db5592ad2caf109008", func := "loop.example/g01079/laws.FnExactSolveTiling", spec := "fnExactSolveTiling", unfollowed := true, recurses := true, apart := false, narrowed := true }
def FnExactSolveTilingUptoSaid : Prop := fnExactSolveTilingUptoRow.holds Try.pinned (OpenSpec.upto fnExactSolveTilingSpec)

/-- 'laws.FnDerivations', WHERE WHAT IT READS IS OF BULK AT MOST 1048576: true; the input reads as it did. -/
def fnDerivationsUptoRow : OpenClaim := { program := "ythmompdfapcgkaa", sum := "c7a529218cda354d521c7ecdd75a76250c708ed9570374db5592ad2caf109008", func := "loop.example/g01079/laws.FnDerivations", spec := "fnDerivations", unfollowed := true, recurses := true, apart := false, narrowed := true }
def FnDerivationsUptoSaid : Prop := fnDerivationsUptoRow.holds Try.pinned (OpenSpec.upto fnDerivationsSpec)

/-- 'laws.FnExactAreJoinable', WHERE WHAT IT READS IS OF BULK AT MOST 1048576: true; the input reads as it did. -/
def fnExactAreJoinableUptoRow : OpenClaim := { program := "ythmompdfapcgkaa", sum := "c7a529218cda354d521c7ecdd75a76250c708ed9570374db5592ad2caf109008", func := "loop.example/g01079/laws.FnExactAreJoinable", spec := "fnExactAreJoinable", unfollowed := true, recurses := true, apart := false, narrowed := true }
def FnExactAreJoinableUptoSaid : Prop := fnExactAreJoinableUptoRow.holds Try.pinned (OpenSpec.upto fnExactAreJoinableSpec)

/-- 'laws.FnOverlaps', WHERE WHAT IT READS IS OF BULK AT MOST 1048576: true; the input reads as it did. -/
def fnOverlapsUptoRow : OpenClaim := { program := "ythmompdfapcgkaa", sum := "c7a529218cda354d521c7ecdd75a76250c708ed9570374db5592ad2caf109008", func := "loop.example/g01079/laws.FnOverlaps", spec := "fnOverlaps", unfollowed := true, recurses := true, apart := false, narrowed := true }
def FnOverlapsUptoSaid : Prop := fnOverlapsUptoRow.holds Try.pinned (OpenSpec.upto fnOverlapsSpec)

end Rows
end Go.Proofs.Ythmompdfapcgkaa
