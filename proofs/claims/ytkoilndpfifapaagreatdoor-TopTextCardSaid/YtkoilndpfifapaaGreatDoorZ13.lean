/- Texts. -/
import Derived.Test.YtkoilndpfifapaaGreatDoorZ12
import Derived.Test.YtkoilndpfifapaaGreatDoorZ9

set_option linter.unusedSimpArgs false
set_option linter.unusedVariables false
set_option linter.unusedSectionVars false
namespace Go.Proofs.YtkoilndpfifapaaGreatDoor
noncomputable section
namespace En
open Go Go.Proofs
set_option maxRecDepth 100000
set_option maxHeartbeats 8000000
def a7k (N : Nat) (f : LB) (x1 x2 : Int) (x3 x4 x5 x6 x7 : List V) : Option (Int) := j3 (b8B N x5 f x1 x2 x3 x4 x5 x6 x7) fun j => some j
def b2v (N : Nat) : Ent := pE 62 b5F (.v fI .z) (a7k N)
theorem c2L (N : Nat) : EO (b2v N) := pk0 (cx := cz [d6L N, a9u N] []) (A9 ⟨d8J N, b3N N, trivial⟩ trivial) Tryz.func62 (by kernel_rfl) fun h => by kernel_rfl
end En
end
end Go.Proofs.YtkoilndpfifapaaGreatDoor
