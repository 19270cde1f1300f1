/-
  No cell of these rows narrows 'for every input' (looked for: loops, veiled, ifaces, maps, wideKeys, modest, calm, conditions, laid).
  DERIVED. THE GIVEN ROWS OF THIS SEAT. 6 by the template 'for every input the law returns true; each argument reads behind the call as it read before'; 0 by the template 'total and deterministic' (their statements: YtilfphdeacogmaaTotals.lean).
  GIVEN WITH THE SEED: the statements are not yours to turn. If you find one false, say at which input.
  Laid BY PROGRAM, IN A SANDBOX (cutbox-rows.mjs): the forced cells as the released guide's own fill.sh prints them over the translation 31ffe4a384e599f3… (all of the seat's roots in one cut). By AI agents, Wed Nov 11 2026. No macro, syntax, notation, axiom, sorry.
-/
import Derived.Test.YtilfphdeacogmaaChecked
import GoSem.Claim
import GoSem.ClaimJoined
import GoSem.ClaimMapViews
import Derived.JoinedTies
import Derived.KernelRfl
namespace Go.Proofs.Ytilfphdeacogmaa
/- THE CELL 'sum', in the pinned program and in every row, IS THE sha256 OF THE DUMP (.gsa) THAT YtilfphdeacogmaaProg.lean LOADS. Nothing in Lean hashes anything: it is a label: what it is worth is what the hold of that sum in a sandbox is worth. -/
noncomputable def Try.pinned : Pinned := { name := "ytilfphdeacogmaa", sum := "31ffe4a384e599f3361ba4107215dc801b38f736904adde147f832b9eb744cbc", checked := Try.checked }
namespace Rows
def none {H : Type} : Left H := { results := [], args := [] }

/-- 'smartcardlaw08.ToneCards': WHATEVER THE INPUT: true; the input reads as it did. -/
def toneCardsSpec : ChangeSpec := { name := "toneCards", fn := fun _ => fun
  | [d1, d2, d3] => { results := [.lit (.bool true)], args := [d1, d2, d3] }
  | _ => none }
def toneCardsRow : OpenClaim := { program := "ytilfphdeacogmaa", sum := "31ffe4a384e599f3361ba4107215dc801b38f736904adde147f832b9eb744cbc", func := "smartcard/smartcardlaw08.ToneCards", spec := "toneCards", unfollowed := true, recurses := true, apart := false }
def ToneCardsSaid : Prop := toneCardsRow.holds Try.pinned (OpenSpec.ofChange toneCardsSpec)

/-- ITS FALSE NEIGHBOUR: 'it returns false'. Refute it at one input. -/
def toneCardsWrong : ChangeSpec := { name := "toneCards", fn := fun _ => fun
  | [d1, d2, d3] => { results := [.lit (.bool false)], args := [d1, d2, d3] }
  | _ => none }
def ToneCardsWrongFalsely : Prop := toneCardsRow.holds Try.pinned (OpenSpec.ofChange toneCardsWrong)

/-- 'smartcardlaw08.ToneGivesUp': WHATEVER THE INPUT: true; the input reads as it did. -/
def toneGivesUpSpec : ChangeSpec := { name := "toneGivesUp", fn := fun _ => fun
  | [d1, d2, d3, d4] => { results := [.lit (.bool true)], args := [d1, d2, d3, d4] }
  | _ => none }
def toneGivesUpRow : OpenClaim := { program := "ytilfphdeacogmaa", sum := "31ffe4a384e599f3361ba4107215dc801b38f736904adde147f832b9eb744cbc", func := "smartcard/smartcardlaw08.ToneGivesUp", spec := "toneGivesUp", unfollowed := true, recurses := true, apart := false }
def ToneGivesUpSaid : Prop := toneGivesUpRow.holds Try.pinned (OpenSpec.ofChange toneGivesUpSpec)

/-- ITS FALSE NEIGHBOUR: 'it returns false'. Refute it at one input. -/
def toneGivesUpWrong : ChangeSpec := { name := "toneGivesUp", fn := fun _ => fun
  | [d1, d2, d3, d4] => { results := [.lit (.bool false)], args := [d1, d2, d3, d4] }
  | _ => none }
def ToneGivesUpWrongFalsely : Prop := toneGivesUpRow.holds Try.pinned (OpenSpec.ofChange toneGivesUpWrong)

/-- 'smartcardlaw08.ToneTerminals': WHATEVER THE INPUT: true; the input reads as it did. -/
def toneTerminalsSpec : ChangeSpec := { name := "toneTerminals", fn := fun _ => fun
  | [d1, d2, d3] => { results := [.lit (.bool true)], args := [d1, d2, d3] }
  | _ => none }
def toneTerminalsRow : OpenClaim := { program := "ytilfphdeacogmaa", sum := "31ffe4a384e599f3361ba4107215dc801b38f736904adde147f832b9eb744cbc", func := "smartcard/smartcardlaw08.ToneTerminals", spec := "toneTerminals", unfollowed := true, recurses := true, apart := false }
def ToneTerminalsSaid : Prop := toneTerminalsRow.holds Try.pinned (OpenSpec.ofChange toneTerminalsSpec)

/-- ITS FALSE NEIGHBOUR: 'it returns false'. Refute it at one input. -/
def toneTerminalsWrong : ChangeSpec := { name := "toneTerminals", fn := fun _ => fun
  | [d1, d2, d3] => { results := [.lit (.bool false)], args := [d1, d2, d3] }
  | _ => none }
def ToneTerminalsWrongFalsely : Prop := toneTerminalsRow.holds Try.pinned (OpenSpec.ofChange toneTerminalsWrong)

/-- 'smartcardlaw08.TonePerfect': WHATEVER THE INPUT: true; the input reads as it did. -/
def tonePerfectSpec : ChangeSpec := { name := "tonePerfect", fn := fun _ => fun
  | [d1, d2, d3, d4] => { results := [.lit (.bool true)], args := [d1, d2, d3, d4] }
  | _ => none }
def tonePerfectRow : OpenClaim := { program := "ytilfphdeacogmaa", sum := "31ffe4a384e599f3361ba4107215dc801b38f736904adde147f832b9eb744cbc", func := "smartcard/smartcardlaw08.TonePerfect", spec := "tonePerfect", unfollowed := true, recurses := true, apart := false }
def TonePerfectSaid : Prop := tonePerfectRow.holds Try.pinned (OpenSpec.ofChange tonePerfectSpec)

/-- ITS FALSE NEIGHBOUR: 'it returns false'. Refute it at one input. -/
def tonePerfectWrong : ChangeSpec := { name := "tonePerfect", fn := fun _ => fun
  | [d1, d2, d3, d4] => { results := [.lit (.bool false)], args := [d1, d2, d3, d4] }
  | _ => none }
def TonePerfectWrongFalsely : Prop := tonePerfectRow.holds Try.pinned (OpenSpec.ofChange tonePerfectWrong)

/-- 'smartcardlaw08.ToneRecovers': WHATEVER THE INPUT: true; the input reads as it did. -/
def toneRecoversSpec : ChangeSpec := { name := "toneRecovers", fn := fun _ => fun
  | [d1, d2, d3, d4] => { results := [.lit (.bool true)], args := [d1, d2, d3, d4] }
  | _ => none }
def toneRecoversRow : OpenClaim := { program := "ytilfphdeacogmaa", sum := "31ffe4a384e599f3361ba4107215dc801b38f736904adde147f832b9eb744cbc", func := "smartcard/smartcardlaw08.ToneRecovers", spec := "toneRecovers", unfollowed := true, recurses := true, apart := false }
def ToneRecoversSaid : Prop := toneRecoversRow.holds Try.pinned (OpenSpec.ofChange toneRecoversSpec)

/-- ITS FALSE NEIGHBOUR: 'it returns false'. Refute it at one input. -/
def toneRecoversWrong : ChangeSpec := { name := "toneRecovers", fn := fun _ => fun
  | [d1, d2, d3, d4] => { results := [.lit (.bool false)], args := [d1, d2, d3, d4] }
  | _ => none }
def ToneRecoversWrongFalsely : Prop := toneRecoversRow.holds Try.pinned (OpenSpec.ofChange toneRecoversWrong)

/-- 'smartcardlaw08.ToneNobody': WHATEVER THE INPUT: true; the input reads as it did. -/
def toneNobodySpec : ChangeSpec := { name := "toneNobody", fn := fun _ => fun
  | [d1, d2] => { results := [.lit (.bool true)], args := [d1, d2] }
  | _ => none }
def toneNobodyRow : OpenClaim := { program := "ytilfphdeacogmaa", sum := "31ffe4a384e599f3361ba4107215dc801b38f736904adde147f832b9eb744cbc", func := "smartcard/smartcardlaw08.ToneNobody", spec := "toneNobody", unfollowed := true, recurses := true, apart := false }
def ToneNobodySaid : Prop := toneNobodyRow.holds Try.pinned (OpenSpec.ofChange toneNobodySpec)

/-- ITS FALSE NEIGHBOUR: 'it returns false'. Refute it at one input. -/
def toneNobodyWrong : ChangeSpec := { name := "toneNobody", fn := fun _ => fun
  | [d1, d2] => { results := [.lit (.bool false)], args := [d1, d2] }
  | _ => none }
def ToneNobodyWrongFalsely : Prop := toneNobodyRow.holds Try.pinned (OpenSpec.ofChange toneNobodyWrong)

/- THE SECOND FORM. 'bulk': how many values and letters a reading holds, each counted each time it is reached (what is shared counts as often as it is met; a slice's spare places count too). A statement '..UptoSaid' is the law's where the arguments, and the package variables that the reading takes, are together of bulk at most 1048576: NARROWER than '..Said'. Prove '..Said' where nothing that the law and all that it calls make is longer than what came in: it says more and counts as full. Else prove '..UptoSaid'. A law counts once. -/
mutual
def uptoBulk {H : Type} : DataW H → Nat
  | .lit (.string bytes) => bytes.length + 1
  | .lit _ => 1
  | .nil => 1
  | .ptr d => uptoBulk d + 1
  | .slice elems spare => uptoBulkAll elems + uptoBulkAll spare + 1
  | .agg parts => uptoBulkAll parts + 1
  | .iface _ d => uptoBulk d + 1
  | .map entries => uptoBulkEntries entries + 1
  | .held _ => 1
def uptoBulkAll {H : Type} : List (DataW H) → Nat
  | [] => 0
  | d :: r => uptoBulk d + uptoBulkAll r
def uptoBulkEntries {H : Type} : List (Lit × DataW H) → Nat
  | [] => 0
  | x :: r => uptoBulkEntry x + uptoBulkEntries r
def uptoBulkEntry {H : Type} : Lit × DataW H → Nat
  | (.string bytes, d) => bytes.length + uptoBulk d + 1
  | (_, d) => uptoBulk d + 1
 end
def uptoSmall : (H : Type) → List (DataW H) → Bool := fun _ ds => decide (uptoBulkAll ds ≤ 1048576)
def OpenSpec.upto (s : _root_.Go.ChangeSpec) : _root_.Go.OpenSpec := { _root_.Go.OpenSpec.ofChange s with cond := some uptoSmall }

/-- 'smartcardlaw08.ToneCards', WHERE WHAT IT READS IS OF BULK AT MOST 1048576: true; the input reads as it did. -/
def toneCardsUptoRow : OpenClaim := { program := "ytilfphdeacogmaa", sum := "31ffe4a384e599f3361ba4107215dc801b38f736904adde147f832b9eb744cbc", func := "smartcard/smartcardlaw08.ToneCards", spec := "toneCards", unfollowed := true, recurses := true, apart := false, narrowed := true }
def ToneCardsUptoSaid : Prop := toneCardsUptoRow.holds Try.pinned (OpenSpec.upto toneCardsSpec)

/-- 'smartcardlaw08.ToneGivesUp', WHERE WHAT IT READS IS OF BULK AT MOST 1048576: true; the input reads as it did. -/
def toneGivesUpUptoRow : OpenClaim := { program := "ytilfphdeacogmaa", sum := "31ffe4a384e599f3361ba4107215dc801b38f736904adde147f832b9eb744cbc", func := "smartcard/smartcardlaw08.ToneGivesUp", spec := "toneGivesUp", unfollowed := true, recurses := true, apart := false, narrowed := true }
def ToneGivesUpUptoSaid : Prop := toneGivesUpUptoRow.holds Try.pinned (OpenSpec.upto toneGivesUpSpec)

/-- 'smartcardlaw08.ToneTerminals', WHERE WHAT IT READS IS OF BULK AT MOST 1048576: true; the input reads as it did. -/
def toneTerminalsUptoRow : OpenClaim := { program := "ytilfphdeacogmaa", sum := "31ffe4a384e599f3361ba4107215dc801b38f736904adde147f832b9eb744cbc", func := "smartcard/smartcardlaw08.ToneTerminals", spec := "toneTerminals", unfollowed := true, recurses := true, apart := false, narrowed := true }
def ToneTerminalsUptoSaid : Prop := toneTerminalsUptoRow.holds Try.pinned (OpenSpec.upto toneTerminalsSpec)

/-- 'smartcardlaw08.TonePerfect', WHERE WHAT IT READS IS OF BULK AT MOST 1048576: true; the input reads as it did. -/
def tonePerfectUptoRow : OpenClaim := { program := "ytilfphdeacogmaa", sum := "31ffe4a384e599f3361ba4107215dc801b38f736904adde147f832b9eb744cbc", func := "smartcard/smartcardlaw08.TonePerfect", spec := "tonePerfect", unfollowed := true, recurses := true, apart := false, narrowed := true }
def TonePerfectUptoSaid : Prop := tonePerfectUptoRow.holds Try.pinned (OpenSpec.upto tonePerfectSpec)

/-- 'smartcardlaw08.ToneRecovers', WHERE WHAT IT READS IS OF BULK AT MOST 1048576: true; the input reads as it did. -/
def toneRecoversUptoRow : OpenClaim := { program := "ytilfphdeacogmaa", sum := "31ffe4a384e599f3361ba4107215dc801b38f736904adde147f832b9eb744cbc", func := "smartcard/smartcardlaw08.ToneRecovers", spec := "toneRecovers", unfollowed := true, recurses := true, apart := false, narrowed := true }
def ToneRecoversUptoSaid : Prop := toneRecoversUptoRow.holds Try.pinned (OpenSpec.upto toneRecoversSpec)

/-- 'smartcardlaw08.ToneNobody', WHERE WHAT IT READS IS OF BULK AT MOST 1048576: true; the input reads as it did. -/
def toneNobodyUptoRow : OpenClaim := { program := "ytilfphdeacogmaa", sum := "31ffe4a384e599f3361ba4107215dc801b38f736904adde147f832b9eb744cbc", func := "smartcard/smartcardlaw08.ToneNobody", spec := "toneNobody", unfollowed := true, recurses := true, apart := false, narrowed := true }
def ToneNobodyUptoSaid : Prop := toneNobodyUptoRow.holds Try.pinned (OpenSpec.upto toneNobodySpec)

end Rows
end Go.Proofs.Ytilfphdeacogmaa
