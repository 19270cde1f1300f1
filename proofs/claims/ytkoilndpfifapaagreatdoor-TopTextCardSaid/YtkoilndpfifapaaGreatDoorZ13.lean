/- Several texts in one. -/
import Derived.Test.YtkoilndpfifapaaGreatDoorZ12
import Derived.Test.YtkoilndpfifapaaGreatDoorZ9

set_option linter.unusedSimpArgs false
set_option linter.unusedVariables false
set_option linter.unusedSectionVars false
namespace Go.Proofs.YtkoilndpfifapaaGreatDoor
noncomputable section
namespace En
open Go Go.Proofs
set_option maxRecDepth 100000
set_option maxHeartbeats 8000000
def a7A (N : Nat) (f : LB) (x1 x2 : Int) (x3 x4 x5 x6 x7 : List V) : Option (Int) := j3 (b8E N x5 f x1 x2 x3 x4 x5 x6 x7) fun j => some j
def c0v (N : Nat) : Cx := cz [d4v N, b0h N] []
def b4L (N : Nat) : Ent := pE 62 b5R (.v fI .z) (a7A N)
theorem c3j (N : Nat) : EO (b4L N) := pk0 (cx := c0v N) (A9 ⟨d8h N, b3j N, trivial⟩ trivial) Tryz.func62 (by kernel_rfl) fun h => by kernel_rfl
end En
end
end Go.Proofs.YtkoilndpfifapaaGreatDoor
