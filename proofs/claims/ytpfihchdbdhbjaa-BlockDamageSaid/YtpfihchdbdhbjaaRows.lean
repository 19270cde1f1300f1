/-
  No cell of these rows narrows 'for every input' (looked for: loops, veiled, ifaces, maps, wideKeys, modest, calm, conditions, laid).
  DERIVED. THE GIVEN ROWS OF THIS SEAT. 7 by the template 'for every input the law returns true; each argument reads behind the call as it read before'; 0 by the template 'total and deterministic' (their statements: YtpfihchdbdhbjaaTotals.lean).
  GIVEN WITH THE SEED: the statements are not yours to turn. If you find one false, say at which input.
  Laid BY PROGRAM, IN A SANDBOX (cutbox-rows.mjs): the forced cells as the released guide's own fill.sh prints them over the translation 84c359bbecc37409… (all of the seat's roots in one cut). By AI agents, Wed Nov 11 2026. No macro, syntax, notation, axiom, sorry.
-/
import Derived.Test.YtpfihchdbdhbjaaChecked
import GoSem.Claim
import GoSem.ClaimJoined
import GoSem.ClaimMapViews
import Derived.JoinedTies
import Derived.KernelRfl
namespace Go.Proofs.Ytpfihchdbdhbjaa
/- THE CELL 'sum', in the pinned program and in every row, IS THE sha256 OF THE DUMP (.gsa) THAT YtpfihchdbdhbjaaProg.lean LOADS. Nothing in Lean hashes anything: it is a label: what it is worth is what the hold of that sum in a sandbox is worth. -/
noncomputable def Try.pinned : Pinned := { name := "ytpfihchdbdhbjaa", sum := "84c359bbecc37409997c4f9cd7bff34c18d037d5141f0435de2dcf638c57d8d9", checked := Try.checked }
namespace Rows
def none {H : Type} : Left H := { results := [], args := [] }

/-- 'smartcardlaw06.BlockChecks': WHATEVER THE INPUT: true; the input reads as it did. -/
def blockChecksSpec : ChangeSpec := { name := "blockChecks", fn := fun _ => fun
  | [d] => { results := [.lit (.bool true)], args := [d] }
  | _ => none }
def blockChecksRow : OpenClaim := { program := "ytpfihchdbdhbjaa", sum := "84c359bbecc37409997c4f9cd7bff34c18d037d5141f0435de2dcf638c57d8d9", func := "smartcard/smartcardlaw06.BlockChecks", spec := "blockChecks", unfollowed := true, recurses := true, apart := false }
def BlockChecksSaid : Prop := blockChecksRow.holds Try.pinned (OpenSpec.ofChange blockChecksSpec)

/-- ITS FALSE NEIGHBOUR: 'it returns false'. Refute it at one input. -/
def blockChecksWrong : ChangeSpec := { name := "blockChecks", fn := fun _ => fun
  | [d] => { results := [.lit (.bool false)], args := [d] }
  | _ => none }
def BlockChecksWrongFalsely : Prop := blockChecksRow.holds Try.pinned (OpenSpec.ofChange blockChecksWrong)

/-- 'smartcardlaw06.BlockEncodes': WHATEVER THE INPUT: true; the input reads as it did. -/
def blockEncodesSpec : ChangeSpec := { name := "blockEncodes", fn := fun _ => fun
  | [d1, d2] => { results := [.lit (.bool true)], args := [d1, d2] }
  | _ => none }
def blockEncodesRow : OpenClaim := { program := "ytpfihchdbdhbjaa", sum := "84c359bbecc37409997c4f9cd7bff34c18d037d5141f0435de2dcf638c57d8d9", func := "smartcard/smartcardlaw06.BlockEncodes", spec := "blockEncodes", unfollowed := true, recurses := true, apart := false }
def BlockEncodesSaid : Prop := blockEncodesRow.holds Try.pinned (OpenSpec.ofChange blockEncodesSpec)

/-- ITS FALSE NEIGHBOUR: 'it returns false'. Refute it at one input. -/
def blockEncodesWrong : ChangeSpec := { name := "blockEncodes", fn := fun _ => fun
  | [d1, d2] => { results := [.lit (.bool false)], args := [d1, d2] }
  | _ => none }
def BlockEncodesWrongFalsely : Prop := blockEncodesRow.holds Try.pinned (OpenSpec.ofChange blockEncodesWrong)

/-- 'smartcardlaw06.BlockDecodes': WHATEVER THE INPUT: true; the input reads as it did. -/
def blockDecodesSpec : ChangeSpec := { name := "blockDecodes", fn := fun _ => fun
  | [d1, d2] => { results := [.lit (.bool true)], args := [d1, d2] }
  | _ => none }
def blockDecodesRow : OpenClaim := { program := "ytpfihchdbdhbjaa", sum := "84c359bbecc37409997c4f9cd7bff34c18d037d5141f0435de2dcf638c57d8d9", func := "smartcard/smartcardlaw06.BlockDecodes", spec := "blockDecodes", unfollowed := true, recurses := true, apart := false }
def BlockDecodesSaid : Prop := blockDecodesRow.holds Try.pinned (OpenSpec.ofChange blockDecodesSpec)

/-- ITS FALSE NEIGHBOUR: 'it returns false'. Refute it at one input. -/
def blockDecodesWrong : ChangeSpec := { name := "blockDecodes", fn := fun _ => fun
  | [d1, d2] => { results := [.lit (.bool false)], args := [d1, d2] }
  | _ => none }
def BlockDecodesWrongFalsely : Prop := blockDecodesRow.holds Try.pinned (OpenSpec.ofChange blockDecodesWrong)

/-- 'smartcardlaw06.BlockRoundTrip': WHATEVER THE INPUT: true; the input reads as it did. -/
def blockRoundTripSpec : ChangeSpec := { name := "blockRoundTrip", fn := fun _ => fun
  | [d1, d2, d3] => { results := [.lit (.bool true)], args := [d1, d2, d3] }
  | _ => none }
def blockRoundTripRow : OpenClaim := { program := "ytpfihchdbdhbjaa", sum := "84c359bbecc37409997c4f9cd7bff34c18d037d5141f0435de2dcf638c57d8d9", func := "smartcard/smartcardlaw06.BlockRoundTrip", spec := "blockRoundTrip", unfollowed := true, recurses := true, apart := false }
def BlockRoundTripSaid : Prop := blockRoundTripRow.holds Try.pinned (OpenSpec.ofChange blockRoundTripSpec)

/-- ITS FALSE NEIGHBOUR: 'it returns false'. Refute it at one input. -/
def blockRoundTripWrong : ChangeSpec := { name := "blockRoundTrip", fn := fun _ => fun
  | [d1, d2, d3] => { results := [.lit (.bool false)], args := [d1, d2, d3] }
  | _ => none }
def BlockRoundTripWrongFalsely : Prop := blockRoundTripRow.holds Try.pinned (OpenSpec.ofChange blockRoundTripWrong)

/-- 'smartcardlaw06.BlockDamage': WHATEVER THE INPUT: true; the input reads as it did. -/
def blockDamageSpec : ChangeSpec := { name := "blockDamage", fn := fun _ => fun
  | [d1, d2, d3] => { results := [.lit (.bool true)], args := [d1, d2, d3] }
  | _ => none }
def blockDamageRow : OpenClaim := { program := "ytpfihchdbdhbjaa", sum := "84c359bbecc37409997c4f9cd7bff34c18d037d5141f0435de2dcf638c57d8d9", func := "smartcard/smartcardlaw06.BlockDamage", spec := "blockDamage", unfollowed := true, recurses := true, apart := false }
def BlockDamageSaid : Prop := blockDamageRow.holds Try.pinned (OpenSpec.ofChange blockDamageSpec)

/-- ITS FALSE NEIGHBOUR: 'it returns false'. Refute it at one input. -/
def blockDamageWrong : ChangeSpec := { name := "blockDamage", fn := fun _ => fun
  | [d1, d2, d3] => { results := [.lit (.bool false)], args := [d1, d2, d3] }
  | _ => none }
def BlockDamageWrongFalsely : Prop := blockDamageRow.holds Try.pinned (OpenSpec.ofChange blockDamageWrong)

/-- 'smartcardlaw06.BlockSame': WHATEVER THE INPUT: true; the input reads as it did. -/
def blockSameSpec : ChangeSpec := { name := "blockSame", fn := fun _ => fun
  | [d1, d2] => { results := [.lit (.bool true)], args := [d1, d2] }
  | _ => none }
def blockSameRow : OpenClaim := { program := "ytpfihchdbdhbjaa", sum := "84c359bbecc37409997c4f9cd7bff34c18d037d5141f0435de2dcf638c57d8d9", func := "smartcard/smartcardlaw06.BlockSame", spec := "blockSame", unfollowed := true, recurses := true, apart := false }
def BlockSameSaid : Prop := blockSameRow.holds Try.pinned (OpenSpec.ofChange blockSameSpec)

/-- ITS FALSE NEIGHBOUR: 'it returns false'. Refute it at one input. -/
def blockSameWrong : ChangeSpec := { name := "blockSame", fn := fun _ => fun
  | [d1, d2] => { results := [.lit (.bool false)], args := [d1, d2] }
  | _ => none }
def BlockSameWrongFalsely : Prop := blockSameRow.holds Try.pinned (OpenSpec.ofChange blockSameWrong)

/-- 'smartcardlaw06.BlockTexts': WHATEVER THE INPUT: true; the input reads as it did. -/
def blockTextsSpec : ChangeSpec := { name := "blockTexts", fn := fun _ => fun
  | [d1, d2] => { results := [.lit (.bool true)], args := [d1, d2] }
  | _ => none }
def blockTextsRow : OpenClaim := { program := "ytpfihchdbdhbjaa", sum := "84c359bbecc37409997c4f9cd7bff34c18d037d5141f0435de2dcf638c57d8d9", func := "smartcard/smartcardlaw06.BlockTexts", spec := "blockTexts", inPlace := ["internal/abi.NoEscape", "internal/bytealg.MakeNoZero"], unfollowed := true, recurses := true, apart := false }
def BlockTextsSaid : Prop := blockTextsRow.holds Try.pinned (OpenSpec.ofChange blockTextsSpec)

/-- ITS FALSE NEIGHBOUR: 'it returns false'. Refute it at one input. -/
def blockTextsWrong : ChangeSpec := { name := "blockTexts", fn := fun _ => fun
  | [d1, d2] => { results := [.lit (.bool false)], args := [d1, d2] }
  | _ => none }
def BlockTextsWrongFalsely : Prop := blockTextsRow.holds Try.pinned (OpenSpec.ofChange blockTextsWrong)

/- THE SECOND FORM. 'bulk': how many values and letters a reading holds, each counted each time it is reached (what is shared counts as often as it is met; a slice's spare places count too). A statement '..UptoSaid' is the law's where the arguments, and the package variables that the reading takes, are together of bulk at most 1048576: NARROWER than '..Said'. Prove '..Said' where nothing that the law and all that it calls make is longer than what came in: it says more and counts as full. Else prove '..UptoSaid'. A law counts once. -/
mutual
def uptoBulk {H : Type} : DataW H → Nat
  | .lit (.string bytes) => bytes.length + 1
  | .lit _ => 1
  | .nil => 1
  | .ptr d => uptoBulk d + 1
  | .slice elems spare => uptoBulkAll elems + uptoBulkAll spare + 1
  | .agg parts => uptoBulkAll parts + 1
  | .iface _ d => uptoBulk d + 1
  | .map entries => uptoBulkEntries entries + 1
  | .held _ => 1
def uptoBulkAll {H : Type} : List (DataW H) → Nat
  | [] => 0
  | d :: r => uptoBulk d + uptoBulkAll r
def uptoBulkEntries {H : Type} : List (Lit × DataW H) → Nat
  | [] => 0
  | x :: r => uptoBulkEntry x + uptoBulkEntries r
def uptoBulkEntry {H : Type} : Lit × DataW H → Nat
  | (.string bytes, d) => bytes.length + uptoBulk d + 1
  | (_, d) => uptoBulk d + 1
 end
def uptoSmall : (H : Type) → List (DataW H) → Bool := fun _ ds => decide (uptoBulkAll ds ≤ 1048576)
def OpenSpec.upto (s : _root_.Go.ChangeSpec) : _root_.Go.OpenSpec := { _root_.Go.OpenSpec.ofChange s with cond := some uptoSmall }

/-- 'smartcardlaw06.BlockChecks', WHERE WHAT IT READS IS OF BULK AT MOST 1048576: true; the input reads as it did. -/
def blockChecksUptoRow : OpenClaim := { program := "ytpfihchdbdhbjaa", sum := "84c359bbecc37409997c4f9cd7bff34c18d037d5141f0435de2dcf638c57d8d9", func := "smartcard/smartcardlaw06.BlockChecks", spec := "blockChecks", unfollowed := true, recurses := true, apart := false, narrowed := true }
def BlockChecksUptoSaid : Prop := blockChecksUptoRow.holds Try.pinned (OpenSpec.upto blockChecksSpec)

/-- 'smartcardlaw06.BlockEncodes', WHERE WHAT IT READS IS OF BULK AT MOST 1048576: true; the input reads as it did. -/
def blockEncodesUptoRow : OpenClaim := { program := "ytpfihchdbdhbjaa", sum := "84c359bbecc37409997c4f9cd7bff34c18d037d5141f0435de2dcf638c57d8d9", func := "smartcard/smartcardlaw06.BlockEncodes", spec := "blockEncodes", unfollowed := true, recurses := true, apart := false, narrowed := true }
def BlockEncodesUptoSaid : Prop := blockEncodesUptoRow.holds Try.pinned (OpenSpec.upto blockEncodesSpec)

/-- 'smartcardlaw06.BlockDecodes', WHERE WHAT IT READS IS OF BULK AT MOST 1048576: true; the input reads as it did. -/
def blockDecodesUptoRow : OpenClaim := { program := "ytpfihchdbdhbjaa", sum := "84c359bbecc37409997c4f9cd7bff34c18d037d5141f0435de2dcf638c57d8d9", func := "smartcard/smartcardlaw06.BlockDecodes", spec := "blockDecodes", unfollowed := true, recurses := true, apart := false, narrowed := true }
def BlockDecodesUptoSaid : Prop := blockDecodesUptoRow.holds Try.pinned (OpenSpec.upto blockDecodesSpec)

/-- 'smartcardlaw06.BlockRoundTrip', WHERE WHAT IT READS IS OF BULK AT MOST 1048576: true; the input reads as it did. -/
def blockRoundTripUptoRow : OpenClaim := { program := "ytpfihchdbdhbjaa", sum := "84c359bbecc37409997c4f9cd7bff34c18d037d5141f0435de2dcf638c57d8d9", func := "smartcard/smartcardlaw06.BlockRoundTrip", spec := "blockRoundTrip", unfollowed := true, recurses := true, apart := false, narrowed := true }
def BlockRoundTripUptoSaid : Prop := blockRoundTripUptoRow.holds Try.pinned (OpenSpec.upto blockRoundTripSpec)

/-- 'smartcardlaw06.BlockDamage', WHERE WHAT IT READS IS OF BULK AT MOST 1048576: true; the input reads as it did. -/
def blockDamageUptoRow : OpenClaim := { program := "ytpfihchdbdhbjaa", sum := "84c359bbecc37409997c4f9cd7bff34c18d037d5141f0435de2dcf638c57d8d9", func := "smartcard/smartcardlaw06.BlockDamage", spec := "blockDamage", unfollowed := true, recurses := true, apart := false, narrowed := true }
def BlockDamageUptoSaid : Prop := blockDamageUptoRow.holds Try.pinned (OpenSpec.upto blockDamageSpec)

/-- 'smartcardlaw06.BlockSame', WHERE WHAT IT READS IS OF BULK AT MOST 1048576: true; the input reads as it did. -/
def blockSameUptoRow : OpenClaim := { program := "ytpfihchdbdhbjaa", sum := "84c359bbecc37409997c4f9cd7bff34c18d037d5141f0435de2dcf638c57d8d9", func := "smartcard/smartcardlaw06.BlockSame", spec := "blockSame", unfollowed := true, recurses := true, apart := false, narrowed := true }
def BlockSameUptoSaid : Prop := blockSameUptoRow.holds Try.pinned (OpenSpec.upto blockSameSpec)

/-- 'smartcardlaw06.BlockTexts', WHERE WHAT IT READS IS OF BULK AT MOST 1048576: true; the input reads as it did. -/
def blockTextsUptoRow : OpenClaim := { program := "ytpfihchdbdhbjaa", sum := "84c359bbecc37409997c4f9cd7bff34c18d037d5141f0435de2dcf638c57d8d9", func := "smartcard/smartcardlaw06.BlockTexts", spec := "blockTexts", inPlace := ["internal/abi.NoEscape", "internal/bytealg.MakeNoZero"], unfollowed := true, recurses := true, apart := false, narrowed := true }
def BlockTextsUptoSaid : Prop := blockTextsUptoRow.holds Try.pinned (OpenSpec.upto blockTextsSpec)

end Rows
end Go.Proofs.Ytpfihchdbdhbjaa
