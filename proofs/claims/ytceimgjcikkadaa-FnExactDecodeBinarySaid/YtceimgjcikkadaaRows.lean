/-
  No cell of these rows narrows 'for every input' (looked for: loops, veiled, ifaces, maps, wideKeys, modest, calm, conditions, laid).
  DERIVED. THE GIVEN ROWS OF THIS SEAT. 5 by the template 'for every input the law returns true; each argument reads behind the call as it read before'; 0 by the template 'total and deterministic' (their statements: YtceimgjcikkadaaTotals.lean).
  GIVEN WITH THE SEED: the statements are not yours to turn. If you find one false, say at which input.
  Laid BY PROGRAM, IN A SANDBOX (cutbox-rows.mjs): the forced cells as the released guide's own fill.sh prints them over the translation 0ee582da39aacfb1… (all of the seat's roots in one cut). By AI agents, Wed Nov 11 2026. No macro, syntax, notation, axiom, sorry.
-/
import Derived.Test.YtceimgjcikkadaaChecked
import GoSem.Claim
import GoSem.ClaimJoined
import GoSem.ClaimMapViews
import Derived.JoinedTies
import Derived.KernelRfl
namespace Go.Proofs.Ytceimgjcikkadaa
/- THE CELL 'sum', in the pinned program and in every row, IS THE sha256 OF THE DUMP (.gsa) THAT YtceimgjcikkadaaProg.lean LOADS. Nothing in Lean hashes anything: it is a label: what it is worth is what the hold of that sum in a sandbox is worth. -/
noncomputable def Try.pinned : Pinned := { name := "ytceimgjcikkadaa", sum := "0ee582da39aacfb1746022c5b3ecee1a0ff0dfe6609e5f798a13dc9b992bef78", checked := Try.checked }
namespace Rows
def none {H : Type} : Left H := { results := [], args := [] }

/-- 'laws.FnExactBinaryMachine': WHATEVER THE INPUT: true; the input reads as it did. -/
def fnExactBinaryMachineSpec : ChangeSpec := { name := "fnExactBinaryMachine", fn := fun _ => fun
  | [d] => { results := [.lit (.bool true)], args := [d] }
  | _ => none }
def fnExactBinaryMachineRow : OpenClaim := { program := "ytceimgjcikkadaa", sum := "0ee582da39aacfb1746022c5b3ecee1a0ff0dfe6609e5f798a13dc9b992bef78", func := "loop.example/g01079/laws.FnExactBinaryMachine", spec := "fnExactBinaryMachine", unfollowed := true, recurses := true, plainKeys := false, apart := false }
def FnExactBinaryMachineSaid : Prop := fnExactBinaryMachineRow.holds Try.pinned (OpenSpec.ofChange fnExactBinaryMachineSpec)

/-- ITS FALSE NEIGHBOUR: 'it returns false'. Refute it at one input. -/
def fnExactBinaryMachineWrong : ChangeSpec := { name := "fnExactBinaryMachine", fn := fun _ => fun
  | [d] => { results := [.lit (.bool false)], args := [d] }
  | _ => none }
def FnExactBinaryMachineWrongFalsely : Prop := fnExactBinaryMachineRow.holds Try.pinned (OpenSpec.ofChange fnExactBinaryMachineWrong)

/-- 'laws.FnExactFoldMachine': WHATEVER THE INPUT: true; the input reads as it did. -/
def fnExactFoldMachineSpec : ChangeSpec := { name := "fnExactFoldMachine", fn := fun _ => fun
  | [d] => { results := [.lit (.bool true)], args := [d] }
  | _ => none }
def fnExactFoldMachineRow : OpenClaim := { program := "ytceimgjcikkadaa", sum := "0ee582da39aacfb1746022c5b3ecee1a0ff0dfe6609e5f798a13dc9b992bef78", func := "loop.example/g01079/laws.FnExactFoldMachine", spec := "fnExactFoldMachine", unfollowed := true, recurses := true, plainKeys := false, apart := false }
def FnExactFoldMachineSaid : Prop := fnExactFoldMachineRow.holds Try.pinned (OpenSpec.ofChange fnExactFoldMachineSpec)

/-- ITS FALSE NEIGHBOUR: 'it returns false'. Refute it at one input. -/
def fnExactFoldMachineWrong : ChangeSpec := { name := "fnExactFoldMachine", fn := fun _ => fun
  | [d] => { results := [.lit (.bool false)], args := [d] }
  | _ => none }
def FnExactFoldMachineWrongFalsely : Prop := fnExactFoldMachineRow.holds Try.pinned (OpenSpec.ofChange fnExactFoldMachineWrong)

/-- 'laws.FnExactFoldConfig': WHATEVER THE INPUT: true; the input reads as it did. -/
def fnExactFoldConfigSpec : ChangeSpec := { name := "fnExactFoldConfig", fn := fun _ => fun
  | [d1, d2] => { results := [.lit (.bool true)], args := [d1, d2] }
  | _ => none }
def fnExactFoldConfigRow : OpenClaim := { program := "ytceimgjcikkadaa", sum := "0ee582da39aacfb1746022c5b3ecee1a0ff0dfe6609e5f798a13dc9b992bef78", func := "loop.example/g01079/laws.FnExactFoldConfig", spec := "fnExactFoldConfig", unfollowed := true, recurses := true, plainKeys := false, apart := false }
def FnExactFoldConfigSaid : Prop := fnExactFoldConfigRow.holds Try.pinned (OpenSpec.ofChange fnExactFoldConfigSpec)

/-- ITS FALSE NEIGHBOUR: 'it returns false'. Refute it at one input. -/
def fnExactFoldConfigWrong : ChangeSpec := { name := "fnExactFoldConfig", fn := fun _ => fun
  | [d1, d2] => { results := [.lit (.bool false)], args := [d1, d2] }
  | _ => none }
def FnExactFoldConfigWrongFalsely : Prop := fnExactFoldConfigRow.holds Try.pinned (OpenSpec.ofChange fnExactFoldConfigWrong)

/-- 'laws.FnExactBinaryConfig': WHATEVER THE INPUT: true; the input reads as it did. -/
def fnExactBinaryConfigSpec : ChangeSpec := { name := "fnExactBinaryConfig", fn := fun _ => fun
  | [d1, d2] => { results := [.lit (.bool true)], args := [d1, d2] }
  | _ => none }
def fnExactBinaryConfigRow : OpenClaim := { program := "ytceimgjcikkadaa", sum := "0ee582da39aacfb1746022c5b3ecee1a0ff0dfe6609e5f798a13dc9b992bef78", func := "loop.example/g01079/laws.FnExactBinaryConfig", spec := "fnExactBinaryConfig", unfollowed := true, recurses := true, plainKeys := false, apart := false }
def FnExactBinaryConfigSaid : Prop := fnExactBinaryConfigRow.holds Try.pinned (OpenSpec.ofChange fnExactBinaryConfigSpec)

/-- ITS FALSE NEIGHBOUR: 'it returns false'. Refute it at one input. -/
def fnExactBinaryConfigWrong : ChangeSpec := { name := "fnExactBinaryConfig", fn := fun _ => fun
  | [d1, d2] => { results := [.lit (.bool false)], args := [d1, d2] }
  | _ => none }
def FnExactBinaryConfigWrongFalsely : Prop := fnExactBinaryConfigRow.holds Try.pinned (OpenSpec.ofChange fnExactBinaryConfigWrong)

/-- 'laws.FnExactDecodeBinary': WHATEVER THE INPUT: true; the input reads as it did. -/
def fnExactDecodeBinarySpec : ChangeSpec := { name := "fnExactDecodeBinary", fn := fun _ => fun
  | [d1, d2] => { results := [.lit (.bool true)], args := [d1, d2] }
  | _ => none }
def fnExactDecodeBinaryRow : OpenClaim := { program := "ytceimgjcikkadaa", sum := "0ee582da39aacfb1746022c5b3ecee1a0ff0dfe6609e5f798a13dc9b992bef78", func := "loop.example/g01079/laws.FnExactDecodeBinary", spec := "fnExactDecodeBinary", unfollowed := true, recurses := true, plainKeys := false, apart := false }
def FnExactDecodeBinarySaid : Prop := fnExactDecodeBinaryRow.holds Try.pinned (OpenSpec.ofChange fnExactDecodeBinarySpec)

/-- ITS FALSE NEIGHBOUR: 'it returns false'. Refute it at one input. -/
def fnExactDecodeBinaryWrong : ChangeSpec := { name := "fnExactDecodeBinary", fn := fun _ => fun
  | [d1, d2] => { results := [.lit (.bool false)], args := [d1, d2] }
  | _ => none }
def FnExactDecodeBinaryWrongFalsely : Prop := fnExactDecodeBinaryRow.holds Try.pinned (OpenSpec.ofChange fnExactDecodeBinaryWrong)

/- THE SECOND FORM. 'bulk': how many values and letters a reading holds, each counted each time it is reached (what is shared counts as often as it is met; a slice's spare places count too). A statement '..UptoSaid' is the law's where the arguments, and the package variables that the reading takes, are together of bulk at most 1048576: NARROWER than '..Said'. Prove '..Said' where nothing that the law and all that it calls make is longer than what came in: it says more and counts as full. Else prove '..UptoSaid'. A law counts once. -/
mutual
def uptoBulk {H : Type} : DataW H → Nat
  | .lit (.string bytes) => bytes.length + 1
  | .lit _ => 1
  | .nil => 1
  | .ptr d => uptoBulk d + 1
  | .slice elems spare => uptoBulkAll elems + uptoBulkAll spare + 1
  | .agg parts => uptoBulkAll parts + 1
  | .iface _ d => uptoBulk d + 1
  | .map entries => uptoBulkEntries entries + 1
  | .held _ => 1
def uptoBulkAll {H : Type} : List (DataW H) → Nat
  | [] => 0
  | d :: r => uptoBulk d + uptoBulkAll r
def uptoBulkEntries {H : Type} : List (Lit × DataW H) → Nat
  | [] => 0
  | x :: r => uptoBulkEntry x + uptoBulkEntries r
def uptoBulkEntry {H : Type} : Lit × DataW H → Nat
  | (.string bytes, d) => bytes.length + uptoBulk d + 1
  | (_, d) => uptoBulk d + 1
 end
def uptoSmall : (H : Type) → List (DataW H) → Bool := fun _ ds => decide (uptoBulkAll ds ≤ 1048576)
def OpenSpec.upto (s : _root_.Go.ChangeSpec) : _root_.Go.OpenSpec := { _root_.Go.OpenSpec.ofChange s with cond := some uptoSmall }

/-- 'laws.FnExactBinaryMachine', WHERE WHAT IT READS IS OF BULK AT MOST 1048576: true; the input reads as it did. -/
def fnExactBinaryMachineUptoRow : OpenClaim := { program := "ytceimgjcikkadaa", sum := "0ee582da39aacfb1746022c5b3ecee1a0ff0dfe6609e5f798a13dc9b992bef78", func := "loop.example/g01079/laws.FnExactBinaryMachine", spec := "fnExactBinaryMachine", unfollowed := true, recurses := true, plainKeys := false, apart := false, narrowed := true }
def FnExactBinaryMachineUptoSaid : Prop := fnExactBinaryMachineUptoRow.holds Try.pinned (OpenSpec.upto fnExactBinaryMachineSpec)

/-- 'laws.FnExactFoldMachine', WHERE WHAT IT READS IS OF BULK AT MOST 1048576: true; the input reads as it did. -/
def fnExactFoldMachineUptoRow : OpenClaim := { program := "ytceimgjcikkadaa", sum := "0ee582da39aacfb1746022c5b3ecee1a0ff0dfe6609e5f798a13dc9b992bef78", func := "loop.example/g01079/laws.FnExactFoldMachine", spec := "fnExactFoldMachine", unfollowed := true, recurses := true, plainKeys := false, apart := false, narrowed := true }
def FnExactFoldMachineUptoSaid : Prop := fnExactFoldMachineUptoRow.holds Try.pinned (OpenSpec.upto fnExactFoldMachineSpec)

/-- 'laws.FnExactFoldConfig', WHERE WHAT IT READS IS OF BULK AT MOST 1048576: true; the input reads as it did. -/
def fnExactFoldConfigUptoRow : OpenClaim := { program := "ytceimgjcikkadaa", sum := "0ee582da39aacfb1746022c5b3ecee1a0ff0dfe6609e5f798a13dc9b992bef78", func := "loop.example/g01079/laws.FnExactFoldConfig", spec := "fnExactFoldConfig", unfollowed := true, recurses := true, plainKeys := false, apart := false, narrowed := true }
def FnExactFoldConfigUptoSaid : Prop := fnExactFoldConfigUptoRow.holds Try.pinned (OpenSpec.upto fnExactFoldConfigSpec)

/-- 'laws.FnExactBinaryConfig', WHERE WHAT IT READS IS OF BULK AT MOST 1048576: true; the input reads as it did. -/
def fnExactBinaryConfigUptoRow : OpenClaim := { program := "ytceimgjcikkadaa", sum := "0ee582da39aacfb1746022c5b3ecee1a0ff0dfe6609e5f798a13dc9b992bef78", func := "loop.example/g01079/laws.FnExactBinaryConfig", spec := "fnExactBinaryConfig", unfollowed := true, recurses := true, plainKeys := false, apart := false, narrowed := true }
def FnExactBinaryConfigUptoSaid : Prop := fnExactBinaryConfigUptoRow.holds Try.pinned (OpenSpec.upto fnExactBinaryConfigSpec)

/-- 'laws.FnExactDecodeBinary', WHERE WHAT IT READS IS OF BULK AT MOST 1048576: true; the input reads as it did. -/
def fnExactDecodeBinaryUptoRow : OpenClaim := { program := "ytceimgjcikkadaa", sum := "0ee582da39aacfb1746022c5b3ecee1a0ff0dfe6609e5f798a13dc9b992bef78", func := "loop.example/g01079/laws.FnExactDecodeBinary", spec := "fnExactDecodeBinary", unfollowed := true, recurses := true, plainKeys := false, apart := false, narrowed := true }
def FnExactDecodeBinaryUptoSaid : Prop := fnExactDecodeBinaryUptoRow.holds Try.pinned (OpenSpec.upto fnExactDecodeBinarySpec)

end Rows
end Go.Proofs.Ytceimgjcikkadaa
