/-
  No cell of these rows narrows 'for every input' (looked for: loops, veiled, ifaces, maps, wideKeys, modest, calm, conditions, laid).
  DERIVED. THE GIVEN ROWS OF THIS SEAT. 6 by the template 'for every input the law returns true; each argument reads behind the call as it read before'; 0 by the template 'total and deterministic' (their statements: YtaoieiiggbpjeaaTotals.lean).
  GIVEN WITH THE SEED: the statements are not yours to turn. If you find one false, say at which input.
  Laid BY PROGRAM, IN A SANDBOX (cutbox-rows.mjs): the forced cells as the released guide's own fill.sh prints them over the translation e31a1de0b9e5adf5… (all of the seat's roots in one cut). By AI agents, Wed Nov 11 2026. No macro, syntax, notation, axiom, sorry.
-/
import Derived.Test.YtaoieiiggbpjeaaChecked
import GoSem.Claim
import GoSem.ClaimJoined
import GoSem.ClaimMapViews
import Derived.JoinedTies
import Derived.KernelRfl
namespace Go.Proofs.Ytaoieiiggbpjeaa
/- THE CELL 'sum', in the pinned program and in every row, IS THE sha256 OF THE DUMP (.gsa) THAT YtaoieiiggbpjeaaProg.lean LOADS. Nothing in Lean hashes anything: it is a label: what it is worth is what the hold of that sum in a sandbox is worth. -/
noncomputable def Try.pinned : Pinned := { name := "ytaoieiiggbpjeaa", sum := "e31a1de0b9e5adf566c0da07118e4b053ff9e3fe1b777a02f85250fabe94a9a1", checked := Try.checked }
namespace Rows
def none {H : Type} : Left H := { results := [], args := [] }

/-- 'kistlaw16.UstarEncodes': WHATEVER THE INPUT: true; the input reads as it did. -/
def ustarEncodesSpec : ChangeSpec := { name := "ustarEncodes", fn := fun _ => fun
  | [d] => { results := [.lit (.bool true)], args := [d] }
  | _ => none }
def ustarEncodesRow : OpenClaim := { program := "ytaoieiiggbpjeaa", sum := "e31a1de0b9e5adf566c0da07118e4b053ff9e3fe1b777a02f85250fabe94a9a1", func := "kist/kistlaw16.UstarEncodes", spec := "ustarEncodes", inPlace := ["internal/bytealg.IndexByteString", "internal/bytealg.IndexString", "internal/abi.NoEscape", "internal/bytealg.CountString"], unfollowed := true, recurses := true, named := ["internal/bytealg.MaxLen"], apart := false }
def UstarEncodesSaid : Prop := ustarEncodesRow.holds Try.pinned (OpenSpec.ofChange ustarEncodesSpec)

/-- ITS FALSE NEIGHBOUR: 'it returns false'. Refute it at one input. -/
def ustarEncodesWrong : ChangeSpec := { name := "ustarEncodes", fn := fun _ => fun
  | [d] => { results := [.lit (.bool false)], args := [d] }
  | _ => none }
def UstarEncodesWrongFalsely : Prop := ustarEncodesRow.holds Try.pinned (OpenSpec.ofChange ustarEncodesWrong)

/-- 'kistlaw16.UstarDecodes': WHATEVER THE INPUT: true; the input reads as it did. -/
def ustarDecodesSpec : ChangeSpec := { name := "ustarDecodes", fn := fun _ => fun
  | [d] => { results := [.lit (.bool true)], args := [d] }
  | _ => none }
def ustarDecodesRow : OpenClaim := { program := "ytaoieiiggbpjeaa", sum := "e31a1de0b9e5adf566c0da07118e4b053ff9e3fe1b777a02f85250fabe94a9a1", func := "kist/kistlaw16.UstarDecodes", spec := "ustarDecodes", inPlace := ["internal/bytealg.IndexByteString", "internal/bytealg.IndexString", "internal/abi.NoEscape", "internal/bytealg.CountString"], unfollowed := true, recurses := true, named := ["internal/bytealg.MaxLen"], apart := false }
def UstarDecodesSaid : Prop := ustarDecodesRow.holds Try.pinned (OpenSpec.ofChange ustarDecodesSpec)

/-- ITS FALSE NEIGHBOUR: 'it returns false'. Refute it at one input. -/
def ustarDecodesWrong : ChangeSpec := { name := "ustarDecodes", fn := fun _ => fun
  | [d] => { results := [.lit (.bool false)], args := [d] }
  | _ => none }
def UstarDecodesWrongFalsely : Prop := ustarDecodesRow.holds Try.pinned (OpenSpec.ofChange ustarDecodesWrong)

/-- 'kistlaw16.UstarZeros': WHATEVER THE INPUT: true; the input reads as it did. -/
def ustarZerosSpec : ChangeSpec := { name := "ustarZeros", fn := fun _ => fun
  | [d] => { results := [.lit (.bool true)], args := [d] }
  | _ => none }
def ustarZerosRow : OpenClaim := { program := "ytaoieiiggbpjeaa", sum := "e31a1de0b9e5adf566c0da07118e4b053ff9e3fe1b777a02f85250fabe94a9a1", func := "kist/kistlaw16.UstarZeros", spec := "ustarZeros", inPlace := ["internal/bytealg.CountString", "internal/bytealg.IndexByteString", "internal/bytealg.IndexString", "internal/abi.NoEscape"], unfollowed := true, recurses := true, named := ["internal/bytealg.MaxLen"], apart := false }
def UstarZerosSaid : Prop := ustarZerosRow.holds Try.pinned (OpenSpec.ofChange ustarZerosSpec)

/-- ITS FALSE NEIGHBOUR: 'it returns false'. Refute it at one input. -/
def ustarZerosWrong : ChangeSpec := { name := "ustarZeros", fn := fun _ => fun
  | [d] => { results := [.lit (.bool false)], args := [d] }
  | _ => none }
def UstarZerosWrongFalsely : Prop := ustarZerosRow.holds Try.pinned (OpenSpec.ofChange ustarZerosWrong)

/-- 'kistlaw16.UstarBack': WHATEVER THE INPUT: true; the input reads as it did. -/
def ustarBackSpec : ChangeSpec := { name := "ustarBack", fn := fun _ => fun
  | [d] => { results := [.lit (.bool true)], args := [d] }
  | _ => none }
def ustarBackRow : OpenClaim := { program := "ytaoieiiggbpjeaa", sum := "e31a1de0b9e5adf566c0da07118e4b053ff9e3fe1b777a02f85250fabe94a9a1", func := "kist/kistlaw16.UstarBack", spec := "ustarBack", inPlace := ["internal/bytealg.IndexByteString", "internal/bytealg.IndexString", "internal/abi.NoEscape", "internal/bytealg.CountString"], unfollowed := true, recurses := true, named := ["internal/bytealg.MaxLen"], apart := false }
def UstarBackSaid : Prop := ustarBackRow.holds Try.pinned (OpenSpec.ofChange ustarBackSpec)

/-- ITS FALSE NEIGHBOUR: 'it returns false'. Refute it at one input. -/
def ustarBackWrong : ChangeSpec := { name := "ustarBack", fn := fun _ => fun
  | [d] => { results := [.lit (.bool false)], args := [d] }
  | _ => none }
def UstarBackWrongFalsely : Prop := ustarBackRow.holds Try.pinned (OpenSpec.ofChange ustarBackWrong)

/-- 'kistlaw16.UstarTurned': WHATEVER THE INPUT: true; the input reads as it did. -/
def ustarTurnedSpec : ChangeSpec := { name := "ustarTurned", fn := fun _ => fun
  | [d1, d2, d3] => { results := [.lit (.bool true)], args := [d1, d2, d3] }
  | _ => none }
def ustarTurnedRow : OpenClaim := { program := "ytaoieiiggbpjeaa", sum := "e31a1de0b9e5adf566c0da07118e4b053ff9e3fe1b777a02f85250fabe94a9a1", func := "kist/kistlaw16.UstarTurned", spec := "ustarTurned", inPlace := ["internal/bytealg.IndexByteString", "internal/bytealg.IndexString", "internal/abi.NoEscape", "internal/bytealg.CountString"], unfollowed := true, recurses := true, named := ["internal/bytealg.MaxLen"], apart := false }
def UstarTurnedSaid : Prop := ustarTurnedRow.holds Try.pinned (OpenSpec.ofChange ustarTurnedSpec)

/-- ITS FALSE NEIGHBOUR: 'it returns false'. Refute it at one input. -/
def ustarTurnedWrong : ChangeSpec := { name := "ustarTurned", fn := fun _ => fun
  | [d1, d2, d3] => { results := [.lit (.bool false)], args := [d1, d2, d3] }
  | _ => none }
def UstarTurnedWrongFalsely : Prop := ustarTurnedRow.holds Try.pinned (OpenSpec.ofChange ustarTurnedWrong)

/-- 'kistlaw16.UstarNames': WHATEVER THE INPUT: true; the input reads as it did. -/
def ustarNamesSpec : ChangeSpec := { name := "ustarNames", fn := fun _ => fun
  | [d1, d2] => { results := [.lit (.bool true)], args := [d1, d2] }
  | _ => none }
def ustarNamesRow : OpenClaim := { program := "ytaoieiiggbpjeaa", sum := "e31a1de0b9e5adf566c0da07118e4b053ff9e3fe1b777a02f85250fabe94a9a1", func := "kist/kistlaw16.UstarNames", spec := "ustarNames", inPlace := ["internal/bytealg.IndexByteString", "internal/bytealg.IndexString", "internal/abi.NoEscape", "internal/bytealg.CountString"], unfollowed := true, recurses := true, named := ["internal/bytealg.MaxLen"], apart := false }
def UstarNamesSaid : Prop := ustarNamesRow.holds Try.pinned (OpenSpec.ofChange ustarNamesSpec)

/-- ITS FALSE NEIGHBOUR: 'it returns false'. Refute it at one input. -/
def ustarNamesWrong : ChangeSpec := { name := "ustarNames", fn := fun _ => fun
  | [d1, d2] => { results := [.lit (.bool false)], args := [d1, d2] }
  | _ => none }
def UstarNamesWrongFalsely : Prop := ustarNamesRow.holds Try.pinned (OpenSpec.ofChange ustarNamesWrong)

/- THE SECOND FORM. 'bulk': how many values and letters a reading holds, each counted each time it is reached (what is shared counts as often as it is met; a slice's spare places count too). A statement '..UptoSaid' is the law's where the arguments, and the package variables that the reading takes, are together of bulk at most 1048576: NARROWER than '..Said'. Prove '..Said' where nothing that the law and all that it calls make is longer than what came in: it says more and counts as full. Else prove '..UptoSaid'. A law counts once. -/
mutual
def uptoBulk {H : Type} : DataW H → Nat
  | .lit (.string bytes) => bytes.length + 1
  | .lit _ => 1
  | .nil => 1
  | .ptr d => uptoBulk d + 1
  | .slice elems spare => uptoBulkAll elems + uptoBulkAll spare + 1
  | .agg parts => uptoBulkAll parts + 1
  | .iface _ d => uptoBulk d + 1
  | .map entries => uptoBulkEntries entries + 1
  | .held _ => 1
def uptoBulkAll {H : Type} : List (DataW H) → Nat
  | [] => 0
  | d :: r => uptoBulk d + uptoBulkAll r
def uptoBulkEntries {H : Type} : List (Lit × DataW H) → Nat
  | [] => 0
  | x :: r => uptoBulkEntry x + uptoBulkEntries r
def uptoBulkEntry {H : Type} : Lit × DataW H → Nat
  | (.string bytes, d) => bytes.length + uptoBulk d + 1
  | (_, d) => uptoBulk d + 1
 end
def uptoSmall : (H : Type) → List (DataW H) → Bool := fun _ ds => decide (uptoBulkAll ds ≤ 1048576)
def OpenSpec.upto (s : _root_.Go.ChangeSpec) : _root_.Go.OpenSpec := { _root_.Go.OpenSpec.ofChange s with cond := some uptoSmall }

/-- 'kistlaw16.UstarEncodes', WHERE WHAT IT READS IS OF BULK AT MOST 1048576: true; the input reads as it did. -/
def ustarEncodesUptoRow : OpenClaim := { program := "ytaoieiiggbpjeaa", sum := "e31a1de0b9e5adf566c0da07118e4b053ff9e3fe1b777a02f85250fabe94a9a1", func := "kist/kistlaw16.UstarEncodes", spec := "ustarEncodes", inPlace := ["internal/bytealg.IndexByteString", "internal/bytealg.IndexString", "internal/abi.NoEscape", "internal/bytealg.CountString"], unfollowed := true, recurses := true, named := ["internal/bytealg.MaxLen"], apart := false, narrowed := true }
def UstarEncodesUptoSaid : Prop := ustarEncodesUptoRow.holds Try.pinned (OpenSpec.upto ustarEncodesSpec)

/-- 'kistlaw16.UstarDecodes', WHERE WHAT IT READS IS OF BULK AT MOST 1048576: true; the input reads as it did. -/
def ustarDecodesUptoRow : OpenClaim := { program := "ytaoieiiggbpjeaa", sum := "e31a1de0b9e5adf566c0da07118e4b053ff9e3fe1b777a02f85250fabe94a9a1", func := "kist/kistlaw16.UstarDecodes", spec := "ustarDecodes", inPlace := ["internal/bytealg.IndexByteString", "internal/bytealg.IndexString", "internal/abi.NoEscape", "internal/bytealg.CountString"], unfollowed := true, recurses := true, named := ["internal/bytealg.MaxLen"], apart := false, narrowed := true }
def UstarDecodesUptoSaid : Prop := ustarDecodesUptoRow.holds Try.pinned (OpenSpec.upto ustarDecodesSpec)

/-- 'kistlaw16.UstarZeros', WHERE WHAT IT READS IS OF BULK AT MOST 1048576: true; the input reads as it did. -/
def ustarZerosUptoRow : OpenClaim := { program := "ytaoieiiggbpjeaa", sum := "e31a1de0b9e5adf566c0da07118e4b053ff9e3fe1b777a02f85250fabe94a9a1", func := "kist/kistlaw16.UstarZeros", spec := "ustarZeros", inPlace := ["internal/bytealg.CountString", "internal/bytealg.IndexByteString", "internal/bytealg.IndexString", "internal/abi.NoEscape"], unfollowed := true, recurses := true, named := ["internal/bytealg.MaxLen"], apart := false, narrowed := true }
def UstarZerosUptoSaid : Prop := ustarZerosUptoRow.holds Try.pinned (OpenSpec.upto ustarZerosSpec)

/-- 'kistlaw16.UstarBack', WHERE WHAT IT READS IS OF BULK AT MOST 1048576: true; the input reads as it did. -/
def ustarBackUptoRow : OpenClaim := { program := "ytaoieiiggbpjeaa", sum := "e31a1de0b9e5adf566c0da07118e4b053ff9e3fe1b777a02f85250fabe94a9a1", func := "kist/kistlaw16.UstarBack", spec := "ustarBack", inPlace := ["internal/bytealg.IndexByteString", "internal/bytealg.IndexString", "internal/abi.NoEscape", "internal/bytealg.CountString"], unfollowed := true, recurses := true, named := ["internal/bytealg.MaxLen"], apart := false, narrowed := true }
def UstarBackUptoSaid : Prop := ustarBackUptoRow.holds Try.pinned (OpenSpec.upto ustarBackSpec)

/-- 'kistlaw16.UstarTurned', WHERE WHAT IT READS IS OF BULK AT MOST 1048576: true; the input reads as it did. -/
def ustarTurnedUptoRow : OpenClaim := { program := "ytaoieiiggbpjeaa", sum := "e31a1de0b9e5adf566c0da07118e4b053ff9e3fe1b777a02f85250fabe94a9a1", func := "kist/kistlaw16.UstarTurned", spec := "ustarTurned", inPlace := ["internal/bytealg.IndexByteString", "internal/bytealg.IndexString", "internal/abi.NoEscape", "internal/bytealg.CountString"], unfollowed := true, recurses := true, named := ["internal/bytealg.MaxLen"], apart := false, narrowed := true }
def UstarTurnedUptoSaid : Prop := ustarTurnedUptoRow.holds Try.pinned (OpenSpec.upto ustarTurnedSpec)

/-- 'kistlaw16.UstarNames', WHERE WHAT IT READS IS OF BULK AT MOST 1048576: true; the input reads as it did. -/
def ustarNamesUptoRow : OpenClaim := { program := "ytaoieiiggbpjeaa", sum := "e31a1de0b9e5adf566c0da07118e4b053ff9e3fe1b777a02f85250fabe94a9a1", func := "kist/kistlaw16.UstarNames", spec := "ustarNames", inPlace := ["internal/bytealg.IndexByteString", "internal/bytealg.IndexString", "internal/abi.NoEscape", "internal/bytealg.CountString"], unfollowed := true, recurses := true, named := ["internal/bytealg.MaxLen"], apart := false, narrowed := true }
def UstarNamesUptoSaid : Prop := ustarNamesUptoRow.holds Try.pinned (OpenSpec.upto ustarNamesSpec)

end Rows
end Go.Proofs.Ytaoieiiggbpjeaa
