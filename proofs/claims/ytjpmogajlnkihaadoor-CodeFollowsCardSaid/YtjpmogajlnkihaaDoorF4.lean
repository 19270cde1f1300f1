/- Several texts in one. -/
import Derived.Test.YtjpmogajlnkihaaDoorF3
import Derived.WalkKit
import Derived.WalkSpells
import Derived.WalkLawsBesides
import Derived.Lib.Hide
import Derived.Deep.Draws
import Derived.Deep.AppendLies
import Derived.Maps.AppendAt
import Derived.Deep.MidRow
import Derived.Test.YtjpmogajlnkihaaDoorF2
import Derived.WalkMore
import Derived.ChangeMaps5

set_option linter.unusedSimpArgs false
set_option linter.unusedVariables false
set_option linter.unusedSectionVars false
/- Functions of the program in plain Lean, joined to the program by evaluation; printed by a program. -/
namespace Go.Proofs.YtjpmogajlnkihaaDoor.En
open Go Go.Proofs
set_option maxRecDepth 100000
set_option linter.unusedVariables false
noncomputable def e_cEncode {R : Type} (s : List V → Option (List UInt8 × Int)) (ds : List D) (K : List D → Option R) : Option R :=
  match ds with
  | [.v (.sl 23 x0) .no] => bnd2 (s x0) fun r0 r1 => K [.v (.bytes r0) .no, .v (.int .i64 r1) .no]
  | _ => none
noncomputable def r_cEncode (rs : List D) (_ : Mem) : Option (List UInt8 × Int) :=
  match rs with
  | [.v (.bytes r0) _, .v (.int .i64 r1) _] => some (r0, r1)
  | _ => none
noncomputable def F_cEncode_13 {R : Type} (N : Nat) (vs1 : List V) (n2 : Int) (n3 : Int) (n4 : Int) (n5 : Int) (n6 : Int) (n8 : Int) (n9 : Int) (n10 : Int) (n11 : Int) (n12 : Int) (n13 : Int) (n14 : Int) (Lq : List UInt8 → Int → Option R) (K0 : List UInt8 → Option R) (l0 : List UInt8) (n7 : Int) : Option R := br (decide (n7 < 3)) (br (decide (n7 = 0)) (br (decide (n4 = 0)) (Lq l0 (IntKind.i64.wrap (n7 + 1))) (br (decide (n4 = 1)) (br (decide (n7 = 0)) (br (decide (n7 = 0)) (br (decide (n7 = 0)) (br (decide (n7 = 0)) (br (decide ((l0.length + [UInt8.ofNat (IntKind.u8.wrap (shrI IntKind.i64 n12 24)).toNat, UInt8.ofNat (IntKind.u8.wrap (shrI IntKind.i64 n12 16)).toNat, UInt8.ofNat (IntKind.u8.wrap (shrI IntKind.i64 n12 8)).toNat, UInt8.ofNat (IntKind.u8.wrap n12).toNat].length) * 1 ≤ 140737488355328)) (Lq (l0 ++ [UInt8.ofNat (IntKind.u8.wrap (shrI IntKind.i64 n12 24)).toNat, UInt8.ofNat (IntKind.u8.wrap (shrI IntKind.i64 n12 16)).toNat, UInt8.ofNat (IntKind.u8.wrap (shrI IntKind.i64 n12 8)).toNat, UInt8.ofNat (IntKind.u8.wrap n12).toNat]) (IntKind.i64.wrap (n7 + 1))) none) (br (decide (n7 = 1)) (br (decide ((l0.length + [UInt8.ofNat (IntKind.u8.wrap (shrI IntKind.i64 n12 24)).toNat, UInt8.ofNat (IntKind.u8.wrap (shrI IntKind.i64 n12 16)).toNat, UInt8.ofNat (IntKind.u8.wrap (shrI IntKind.i64 n12 8)).toNat, UInt8.ofNat (IntKind.u8.wrap n13).toNat].length) * 1 ≤ 140737488355328)) (Lq (l0 ++ [UInt8.ofNat (IntKind.u8.wrap (shrI IntKind.i64 n12 24)).toNat, UInt8.ofNat (IntKind.u8.wrap (shrI IntKind.i64 n12 16)).toNat, UInt8.ofNat (IntKind.u8.wrap (shrI IntKind.i64 n12 8)).toNat, UInt8.ofNat (IntKind.u8.wrap n13).toNat]) (IntKind.i64.wrap (n7 + 1))) none) (br (decide (n7 = 2)) (br (decide ((l0.length + [UInt8.ofNat (IntKind.u8.wrap (shrI IntKind.i64 n12 24)).toNat, UInt8.ofNat (IntKind.u8.wrap (shrI IntKind.i64 n12 16)).toNat, UInt8.ofNat (IntKind.u8.wrap (shrI IntKind.i64 n12 8)).toNat, UInt8.ofNat (IntKind.u8.wrap n14).toNat].length) * 1 ≤ 140737488355328)) (Lq (l0 ++ [UInt8.ofNat (IntKind.u8.wrap (shrI IntKind.i64 n12 24)).toNat, UInt8.ofNat (IntKind.u8.wrap (shrI IntKind.i64 n12 16)).toNat, UInt8.ofNat (IntKind.u8.wrap (shrI IntKind.i64 n12 8)).toNat, UInt8.ofNat (IntKind.u8.wrap n14).toNat]) (IntKind.i64.wrap (n7 + 1))) none) none))) (br (decide (n7 = 1)) (br (decide (n7 = 0)) (br (decide ((l0.length + [UInt8.ofNat (IntKind.u8.wrap (shrI IntKind.i64 n12 24)).toNat, UInt8.ofNat (IntKind.u8.wrap (shrI IntKind.i64 n12 16)).toNat, UInt8.ofNat (IntKind.u8.wrap (shrI IntKind.i64 n13 8)).toNat, UInt8.ofNat (IntKind.u8.wrap n12).toNat].length) * 1 ≤ 140737488355328)) (Lq (l0 ++ [UInt8.ofNat (IntKind.u8.wrap (shrI IntKind.i64 n12 24)).toNat, UInt8.ofNat (IntKind.u8.wrap (shrI IntKind.i64 n12 16)).toNat, UInt8.ofNat (IntKind.u8.wrap (shrI IntKind.i64 n13 8)).toNat, UInt8.ofNat (IntKind.u8.wrap n12).toNat]) (IntKind.i64.wrap (n7 + 1))) none) (br (decide (n7 = 1)) (br (decide ((l0.length + [UInt8.ofNat (IntKind.u8.wrap (shrI IntKind.i64 n12 24)).toNat, UInt8.ofNat (IntKind.u8.wrap (shrI IntKind.i64 n12 16)).toNat, UInt8.ofNat (IntKind.u8.wrap (shrI IntKind.i64 n13 8)).toNat, UInt8.ofNat (IntKind.u8.wrap n13).toNat].length) * 1 ≤ 140737488355328)) (Lq (l0 ++ [UInt8.ofNat (IntKind.u8.wrap (shrI IntKind.i64 n12 24)).toNat, UInt8.ofNat (IntKind.u8.wrap (shrI IntKind.i64 n12 16)).toNat, UInt8.ofNat (IntKind.u8.wrap (shrI IntKind.i64 n13 8)).toNat, UInt8.ofNat (IntKind.u8.wrap n13).toNat]) (IntKind.i64.wrap (n7 + 1))) none) (br (decide (n7 = 2)) (br (decide ((l0.length + [UInt8.ofNat (IntKind.u8.wrap (shrI IntKind.i64 n12 24)).toNat, UInt8.ofNat (IntKind.u8.wrap (shrI IntKind.i64 n12 16)).toNat, UInt8.ofNat (IntKind.u8.wrap (shrI IntKind.i64 n13 8)).toNat, UInt8.ofNat (IntKind.u8.wrap n14).toNat].length) * 1 ≤ 140737488355328)) (Lq (l0 ++ [UInt8.ofNat (IntKind.u8.wrap (shrI IntKind.i64 n12 24)).toNat, UInt8.ofNat (IntKind.u8.wrap (shrI IntKind.i64 n12 16)).toNat, UInt8.ofNat (IntKind.u8.wrap (shrI IntKind.i64 n13 8)).toNat, UInt8.ofNat (IntKind.u8.wrap n14).toNat]) (IntKind.i64.wrap (n7 + 1))) none) none))) (br (decide (n7 = 2)) (br (decide (n7 = 0)) (br (decide ((l0.length + [UInt8.ofNat (IntKind.u8.wrap (shrI IntKind.i64 n12 24)).toNat, UInt8.ofNat (IntKind.u8.wrap (shrI IntKind.i64 n12 16)).toNat, UInt8.ofNat (IntKind.u8.wrap (shrI IntKind.i64 n14 8)).toNat, UInt8.ofNat (IntKind.u8.wrap n12).toNat].length) * 1 ≤ 140737488355328)) (Lq (l0 ++ [UInt8.ofNat (IntKind.u8.wrap (shrI IntKind.i64 n12 24)).toNat, UInt8.ofNat (IntKind.u8.wrap (shrI IntKind.i64 n12 16)).toNat, UInt8.ofNat (IntKind.u8.wrap (shrI IntKind.i64 n14 8)).toNat, UInt8.ofNat (IntKind.u8.wrap n12).toNat]) (IntKind.i64.wrap (n7 + 1))) none) (br (decide (n7 = 1)) (br (decide ((l0.length + [UInt8.ofNat (IntKind.u8.wrap (shrI IntKind.i64 n12 24)).toNat, UInt8.ofNat (IntKind.u8.wrap (shrI IntKind.i64 n12 16)).toNat, UInt8.ofNat (IntKind.u8.wrap (shrI IntKind.i64 n14 8)).toNat, UInt8.ofNat (IntKind.u8.wrap n13).toNat].length) * 1 ≤ 140737488355328)) (Lq (l0 ++ [UInt8.ofNat (IntKind.u8.wrap (shrI IntKind.i64 n12 24)).toNat, UInt8.ofNat (IntKind.u8.wrap (shrI IntKind.i64 n12 16)).toNat, UInt8.ofNat (IntKind.u8.wrap (shrI IntKind.i64 n14 8)).toNat, UInt8.ofNat (IntKind.u8.wrap n13).toNat]) (IntKind.i64.wrap (n7 + 1))) none) (br (decide (n7 = 2)) (br (decide ((l0.length + [UInt8.ofNat (IntKind.u8.wrap (shrI IntKind.i64 n12 24)).toNat, UInt8.ofNat (IntKind.u8.wrap (shrI IntKind.i64 n12 16)).toNat, UInt8.ofNat (IntKind.u8.wrap (shrI IntKind.i64 n14 8)).toNat, UInt8.ofNat (IntKind.u8.wrap n14).toNat].length) * 1 ≤ 140737488355328)) (Lq (l0 ++ [UInt8.ofNat (IntKind.u8.wrap (shrI IntKind.i64 n12 24)).toNat, UInt8.ofNat (IntKind.u8.wrap (shrI IntKind.i64 n12 16)).toNat, UInt8.ofNat (IntKind.u8.wrap (shrI IntKind.i64 n14 8)).toNat, UInt8.ofNat (IntKind.u8.wrap n14).toNat]) (IntKind.i64.wrap (n7 + 1))) none) none))) none))) (br (decide (n7 = 1)) (br (decide (n7 = 0)) (br (decide (n7 = 0)) (br (decide ((l0.length + [UInt8.ofNat (IntKind.u8.wrap (shrI IntKind.i64 n12 24)).toNat, UInt8.ofNat (IntKind.u8.wrap (shrI IntKind.i64 n13 16)).toNat, UInt8.ofNat (IntKind.u8.wrap (shrI IntKind.i64 n12 8)).toNat, UInt8.ofNat (IntKind.u8.wrap n12).toNat].length) * 1 ≤ 140737488355328)) (Lq (l0 ++ [UInt8.ofNat (IntKind.u8.wrap (shrI IntKind.i64 n12 24)).toNat, UInt8.ofNat (IntKind.u8.wrap (shrI IntKind.i64 n13 16)).toNat, UInt8.ofNat (IntKind.u8.wrap (shrI IntKind.i64 n12 8)).toNat, UInt8.ofNat (IntKind.u8.wrap n12).toNat]) (IntKind.i64.wrap (n7 + 1))) none) (br (decide (n7 = 1)) (br (decide ((l0.length + [UInt8.ofNat (IntKind.u8.wrap (shrI IntKind.i64 n12 24)).toNat, UInt8.ofNat (IntKind.u8.wrap (shrI IntKind.i64 n13 16)).toNat, UInt8.ofNat (IntKind.u8.wrap (shrI IntKind.i64 n12 8)).toNat, UInt8.ofNat (IntKind.u8.wrap n13).toNat].length) * 1 ≤ 140737488355328)) (Lq (l0 ++ [UInt8.ofNat (IntKind.u8.wrap (shrI IntKind.i64 n12 24)).toNat, UInt8.ofNat (IntKind.u8.wrap (shrI IntKind.i64 n13 16)).toNat, UInt8.ofNat (IntKind.u8.wrap (shrI IntKind.i64 n12 8)).toNat, UInt8.ofNat (IntKind.u8.wrap n13).toNat]) (IntKind.i64.wrap (n7 + 1))) none) (br (decide (n7 = 2)) (br (decide ((l0.length + [UInt8.ofNat (IntKind.u8.wrap (shrI IntKind.i64 n12 24)).toNat, UInt8.ofNat (IntKind.u8.wrap (shrI IntKind.i64 n13 16)).toNat, UInt8.ofNat (IntKind.u8.wrap (shrI IntKind.i64 n12 8)).toNat, UInt8.ofNat (IntKind.u8.wrap n14).toNat].length) * 1 ≤ 140737488355328)) (Lq (l0 ++ [UInt8.ofNat (IntKind.u8.wrap (shrI IntKind.i64 n12 24)).toNat, UInt8.ofNat (IntKind.u8.wrap (shrI IntKind.i64 n13 16)).toNat, UInt8.ofNat (IntKind.u8.wrap (shrI IntKind.i64 n12 8)).toNat, UInt8.ofNat (IntKind.u8.wrap n14).toNat]) (IntKind.i64.wrap (n7 + 1))) none) none))) (br (decide (n7 = 1)) (br (decide (n7 = 0)) (br (decide ((l0.length + [UInt8.ofNat (IntKind.u8.wrap (shrI IntKind.i64 n12 24)).toNat, UInt8.ofNat (IntKind.u8.wrap (shrI IntKind.i64 n13 16)).toNat, UInt8.ofNat (IntKind.u8.wrap (shrI IntKind.i64 n13 8)).toNat, UInt8.ofNat (IntKind.u8.wrap n12).toNat].length) * 1 ≤ 140737488355328)) (Lq (l0 ++ [UInt8.ofNat (IntKind.u8.wrap (shrI IntKind.i64 n12 24)).toNat, UInt8.ofNat (IntKind.u8.wrap (shrI IntKind.i64 n13 16)).toNat, UInt8.ofNat (IntKind.u8.wrap (shrI IntKind.i64 n13 8)).toNat, UInt8.ofNat (IntKind.u8.wrap n12).toNat]) (IntKind.i64.wrap (n7 + 1))) none) (br (decide (n7 = 1)) (br (decide ((l0.length + [UInt8.ofNat (IntKind.u8.wrap (shrI IntKind.i64 n12 24)).toNat, UInt8.ofNat (IntKind.u8.wrap (shrI IntKind.i64 n13 16)).toNat, UInt8.ofNat (IntKind.u8.wrap (shrI IntKind.i64 n13 8)).toNat, UInt8.ofNat (IntKind.u8.wrap n13).toNat].length) * 1 ≤ 140737488355328)) (Lq (l0 ++ [UInt8.ofNat (IntKind.u8.wrap (shrI IntKind.i64 n12 24)).toNat, UInt8.ofNat (IntKind.u8.wrap (shrI IntKind.i64 n13 16)).toNat, UInt8.ofNat (IntKind.u8.wrap (shrI IntKind.i64 n13 8)).toNat, UInt8.ofNat (IntKind.u8.wrap n13).toNat]) (IntKind.i64.wrap (n7 + 1))) none) (br (decide (n7 = 2)) (br (decide ((l0.length + [UInt8.ofNat (IntKind.u8.wrap (shrI IntKind.i64 n12 24)).toNat, UInt8.ofNat (IntKind.u8.wrap (shrI IntKind.i64 n13 16)).toNat, UInt8.ofNat (IntKind.u8.wrap (shrI IntKind.i64 n13 8)).toNat, UInt8.ofNat (IntKind.u8.wrap n14).toNat].length) * 1 ≤ 140737488355328)) (Lq (l0 ++ [UInt8.ofNat (IntKind.u8.wrap (shrI IntKind.i64 n12 24)).toNat, UInt8.ofNat (IntKind.u8.wrap (shrI IntKind.i64 n13 16)).toNat, UInt8.ofNat (IntKind.u8.wrap (shrI IntKind.i64 n13 8)).toNat, UInt8.ofNat (IntKind.u8.wrap n14).toNat]) (IntKind.i64.wrap (n7 + 1))) none) none))) (br (decide (n7 = 2)) (br (decide (n7 = 0)) (br (decide ((l0.length + [UInt8.ofNat (IntKind.u8.wrap (shrI IntKind.i64 n12 24)).toNat, UInt8.ofNat (IntKind.u8.wrap (shrI IntKind.i64 n13 16)).toNat, UInt8.ofNat (IntKind.u8.wrap (shrI IntKind.i64 n14 8)).toNat, UInt8.ofNat (IntKind.u8.wrap n12).toNat].length) * 1 ≤ 140737488355328)) (Lq (l0 ++ [UInt8.ofNat (IntKind.u8.wrap (shrI IntKind.i64 n12 24)).toNat, UInt8.ofNat (IntKind.u8.wrap (shrI IntKind.i64 n13 16)).toNat, UInt8.ofNat (IntKind.u8.wrap (shrI IntKind.i64 n14 8)).toNat, UInt8.ofNat (IntKind.u8.wrap n12).toNat]) (IntKind.i64.wrap (n7 + 1))) none) (br (decide (n7 = 1)) (br (decide ((l0.length + [UInt8.ofNat (IntKind.u8.wrap (shrI IntKind.i64 n12 24)).toNat, UInt8.ofNat (IntKind.u8.wrap (shrI IntKind.i64 n13 16)).toNat, UInt8.ofNat (IntKind.u8.wrap (shrI IntKind.i64 n14 8)).toNat, UInt8.ofNat (IntKind.u8.wrap n13).toNat].length) * 1 ≤ 140737488355328)) (Lq (l0 ++ [UInt8.ofNat (IntKind.u8.wrap (shrI IntKind.i64 n12 24)).toNat, UInt8.ofNat (IntKind.u8.wrap (shrI IntKind.i64 n13 16)).toNat, UInt8.ofNat (IntKind.u8.wrap (shrI IntKind.i64 n14 8)).toNat, UInt8.ofNat (IntKind.u8.wrap n13).toNat]) (IntKind.i64.wrap (n7 + 1))) none) (br (decide (n7 = 2)) (br (decide ((l0.length + [UInt8.ofNat (IntKind.u8.wrap (shrI IntKind.i64 n12 24)).toNat, UInt8.ofNat (IntKind.u8.wrap (shrI IntKind.i64 n13 16)).toNat, UInt8.ofNat (IntKind.u8.wrap (shrI IntKind.i64 n14 8)).toNat, UInt8.ofNat (IntKind.u8.wrap n14).toNat].length) * 1 ≤ 140737488355328)) (Lq (l0 ++ [UInt8.ofNat (IntKind.u8.wrap (shrI IntKind.i64 n12 24)).toNat, UInt8.ofNat (IntKind.u8.wrap (shrI IntKind.i64 n13 16)).toNat, UInt8.ofNat (IntKind.u8.wrap (shrI IntKind.i64 n14 8)).toNat, UInt8.ofNat (IntKind.u8.wrap n14).toNat]) (IntKind.i64.wrap (n7 + 1))) none) none))) none))) (br (decide (n7 = 2)) (br (decide (n7 = 0)) (br (decide (n7 = 0)) (br (decide ((l0.length + [UInt8.ofNat (IntKind.u8.wrap (shrI IntKind.i64 n12 24)).toNat, UInt8.ofNat (IntKind.u8.wrap (shrI IntKind.i64 n14 16)).toNat, UInt8.ofNat (IntKind.u8.wrap (shrI IntKind.i64 n12 8)).toNat, UInt8.ofNat (IntKind.u8.wrap n12).toNat].length) * 1 ≤ 140737488355328)) (Lq (l0 ++ [UInt8.ofNat (IntKind.u8.wrap (shrI IntKind.i64 n12 24)).toNat, UInt8.ofNat (IntKind.u8.wrap (shrI IntKind.i64 n14 16)).toNat, UInt8.ofNat (IntKind.u8.wrap (shrI IntKind.i64 n12 8)).toNat, UInt8.ofNat (IntKind.u8.wrap n12).toNat]) (IntKind.i64.wrap (n7 + 1))) none) (br (decide (n7 = 1)) (br (decide ((l0.length + [UInt8.ofNat (IntKind.u8.wrap (shrI IntKind.i64 n12 24)).toNat, UInt8.ofNat (IntKind.u8.wrap (shrI IntKind.i64 n14 16)).toNat, UInt8.ofNat (IntKind.u8.wrap (shrI IntKind.i64 n12 8)).toNat, UInt8.ofNat (IntKind.u8.wrap n13).toNat].length) * 1 ≤ 140737488355328)) (Lq (l0 ++ [UInt8.ofNat (IntKind.u8.wrap (shrI IntKind.i64 n12 24)).toNat, UInt8.ofNat (IntKind.u8.wrap (shrI IntKind.i64 n14 16)).toNat, UInt8.ofNat (IntKind.u8.wrap (shrI IntKind.i64 n12 8)).toNat, UInt8.ofNat (IntKind.u8.wrap n13).toNat]) (IntKind.i64.wrap (n7 + 1))) none) (br (decide (n7 = 2)) (br (decide ((l0.length + [UInt8.ofNat (IntKind.u8.wrap (shrI IntKind.i64 n12 24)).toNat, UInt8.ofNat (IntKind.u8.wrap (shrI IntKind.i64 n14 16)).toNat, UInt8.ofNat (IntKind.u8.wrap (shrI IntKind.i64 n12 8)).toNat, UInt8.ofNat (IntKind.u8.wrap n14).toNat].length) * 1 ≤ 140737488355328)) (Lq (l0 ++ [UInt8.ofNat (IntKind.u8.wrap (shrI IntKind.i64 n12 24)).toNat, UInt8.ofNat (IntKind.u8.wrap (shrI IntKind.i64 n14 16)).toNat, UInt8.ofNat (IntKind.u8.wrap (shrI IntKind.i64 n12 8)).toNat, UInt8.ofNat (IntKind.u8.wrap n14).toNat]) (IntKind.i64.wrap (n7 + 1))) none) none))) (br (decide (n7 = 1)) (br (decide (n7 = 0)) (br (decide ((l0.length + [UInt8.ofNat (IntKind.u8.wrap (shrI IntKind.i64 n12 24)).toNat, UInt8.ofNat (IntKind.u8.wrap (shrI IntKind.i64 n14 16)).toNat, UInt8.ofNat (IntKind.u8.wrap (shrI IntKind.i64 n13 8)).toNat, UInt8.ofNat (IntKind.u8.wrap n12).toNat].length) * 1 ≤ 140737488355328)) (Lq (l0 ++ [UInt8.ofNat (IntKind.u8.wrap (shrI IntKind.i64 n12 24)).toNat, UInt8.ofNat (IntKind.u8.wrap (shrI IntKind.i64 n14 16)).toNat, UInt8.ofNat (IntKind.u8.wrap (shrI IntKind.i64 n13 8)).toNat, UInt8.ofNat (IntKind.u8.wrap n12).toNat]) (IntKind.i64.wrap (n7 + 1))) none) (br (decide (n7 = 1)) (br (decide ((l0.length + [UInt8.ofNat (IntKind.u8.wrap (shrI IntKind.i64 n12 24)).toNat, UInt8.ofNat (IntKind.u8.wrap (shrI IntKind.i64 n14 16)).toNat, UInt8.ofNat (IntKind.u8.wrap (shrI IntKind.i64 n13 8)).toNat, UInt8.ofNat (IntKind.u8.wrap n13).toNat].length) * 1 ≤ 140737488355328)) (Lq (l0 ++ [UInt8.ofNat (IntKind.u8.wrap (shrI IntKind.i64 n12 24)).toNat, UInt8.ofNat (IntKind.u8.wrap (shrI IntKind.i64 n14 16)).toNat, UInt8.ofNat (IntKind.u8.wrap (shrI IntKind.i64 n13 8)).toNat, UInt8.ofNat (IntKind.u8.wrap n13).toNat]) (IntKind.i64.wrap (n7 + 1))) none) (br (decide (n7 = 2)) (br (decide ((l0.length + [UInt8.ofNat (IntKind.u8.wrap (shrI IntKind.i64 n12 24)).toNat, UInt8.ofNat (IntKind.u8.wrap (shrI IntKind.i64 n14 16)).toNat, UInt8.ofNat (IntKind.u8.wrap (shrI IntKind.i64 n13 8)).toNat, UInt8.ofNat (IntKind.u8.wrap n14).toNat].length) * 1 ≤ 140737488355328)) (Lq (l0 ++ [UInt8.ofNat (IntKind.u8.wrap (shrI IntKind.i64 n12 24)).toNat, UInt8.ofNat (IntKind.u8.wrap (shrI IntKind.i64 n14 16)).toNat, UInt8.ofNat (IntKind.u8.wrap (shrI IntKind.i64 n13 8)).toNat, UInt8.ofNat (IntKind.u8.wrap n14).toNat]) (IntKind.i64.wrap (n7 + 1))) none) none))) (br (decide (n7 = 2)) (br (decide (n7 = 0)) (br (decide ((l0.length + [UInt8.ofNat (IntKind.u8.wrap (shrI IntKind.i64 n12 24)).toNat, UInt8.ofNat (IntKind.u8.wrap (shrI IntKind.i64 n14 16)).toNat, UInt8.ofNat (IntKind.u8.wrap (shrI IntKind.i64 n14 8)).toNat, UInt8.ofNat (IntKind.u8.wrap n12).toNat].length) * 1 ≤ 140737488355328)) (Lq (l0 ++ [UInt8.ofNat (IntKind.u8.wrap (shrI IntKind.i64 n12 24)).toNat, UInt8.ofNat (IntKind.u8.wrap (shrI IntKind.i64 n14 16)).toNat, UInt8.ofNat (IntKind.u8.wrap (shrI IntKind.i64 n14 8)).toNat, UInt8.ofNat (IntKind.u8.wrap n12).toNat]) (IntKind.i64.wrap (n7 + 1))) none) (br (decide (n7 = 1)) (br (decide ((l0.length + [UInt8.ofNat (IntKind.u8.wrap (shrI IntKind.i64 n12 24)).toNat, UInt8.ofNat (IntKind.u8.wrap (shrI IntKind.i64 n14 16)).toNat, UInt8.ofNat (IntKind.u8.wrap (shrI IntKind.i64 n14 8)).toNat, UInt8.ofNat (IntKind.u8.wrap n13).toNat].length) * 1 ≤ 140737488355328)) (Lq (l0 ++ [UInt8.ofNat (IntKind.u8.wrap (shrI IntKind.i64 n12 24)).toNat, UInt8.ofNat (IntKind.u8.wrap (shrI IntKind.i64 n14 16)).toNat, UInt8.ofNat (IntKind.u8.wrap (shrI IntKind.i64 n14 8)).toNat, UInt8.ofNat (IntKind.u8.wrap n13).toNat]) (IntKind.i64.wrap (n7 + 1))) none) (br (decide (n7 = 2)) (br (decide ((l0.length + [UInt8.ofNat (IntKind.u8.wrap (shrI IntKind.i64 n12 24)).toNat, UInt8.ofNat (IntKind.u8.wrap (shrI IntKind.i64 n14 16)).toNat, UInt8.ofNat (IntKind.u8.wrap (shrI IntKind.i64 n14 8)).toNat, UInt8.ofNat (IntKind.u8.wrap n14).toNat].length) * 1 ≤ 140737488355328)) (Lq (l0 ++ [UInt8.ofNat (IntKind.u8.wrap (shrI IntKind.i64 n12 24)).toNat, UInt8.ofNat (IntKind.u8.wrap (shrI IntKind.i64 n14 16)).toNat, UInt8.ofNat (IntKind.u8.wrap (shrI IntKind.i64 n14 8)).toNat, UInt8.ofNat (IntKind.u8.wrap n14).toNat]) (IntKind.i64.wrap (n7 + 1))) none) none))) none))) none))) (br (decide (n7 = 1)) (br (decide (n7 = 0)) (br (decide (n7 = 0)) (br (decide (n7 = 0)) (br (decide ((l0.length + [UInt8.ofNat (IntKind.u8.wrap (shrI IntKind.i64 n13 24)).toNat, UInt8.ofNat (IntKind.u8.wrap (shrI IntKind.i64 n12 16)).toNat, UInt8.ofNat (IntKind.u8.wrap (shrI IntKind.i64 n12 8)).toNat, UInt8.ofNat (IntKind.u8.wrap n12).toNat].length) * 1 ≤ 140737488355328)) (Lq (l0 ++ [UInt8.ofNat (IntKind.u8.wrap (shrI IntKind.i64 n13 24)).toNat, UInt8.ofNat (IntKind.u8.wrap (shrI IntKind.i64 n12 16)).toNat, UInt8.ofNat (IntKind.u8.wrap (shrI IntKind.i64 n12 8)).toNat, UInt8.ofNat (IntKind.u8.wrap n12).toNat]) (IntKind.i64.wrap (n7 + 1))) none) (br (decide (n7 = 1)) (br (decide ((l0.length + [UInt8.ofNat (IntKind.u8.wrap (shrI IntKind.i64 n13 24)).toNat, UInt8.ofNat (IntKind.u8.wrap (shrI IntKind.i64 n12 16)).toNat, UInt8.ofNat (IntKind.u8.wrap (shrI IntKind.i64 n12 8)).toNat, UInt8.ofNat (IntKind.u8.wrap n13).toNat].length) * 1 ≤ 140737488355328)) (Lq (l0 ++ [UInt8.ofNat (IntKind.u8.wrap (shrI IntKind.i64 n13 24)).toNat, UInt8.ofNat (IntKind.u8.wrap (shrI IntKind.i64 n12 16)).toNat, UInt8.ofNat (IntKind.u8.wrap (shrI IntKind.i64 n12 8)).toNat, UInt8.ofNat (IntKind.u8.wrap n13).toNat]) (IntKind.i64.wrap (n7 + 1))) none) (br (decide (n7 = 2)) (br (decide ((l0.length + [UInt8.ofNat (IntKind.u8.wrap (shrI IntKind.i64 n13 24)).toNat, UInt8.ofNat (IntKind.u8.wrap (shrI IntKind.i64 n12 16)).toNat, UInt8.ofNat (IntKind.u8.wrap (shrI IntKind.i64 n12 8)).toNat, UInt8.ofNat (IntKind.u8.wrap n14).toNat].length) * 1 ≤ 140737488355328)) (Lq (l0 ++ [UInt8.ofNat (IntKind.u8.wrap (shrI IntKind.i64 n13 24)).toNat, UInt8.ofNat (IntKind.u8.wrap (shrI IntKind.i64 n12 16)).toNat, UInt8.ofNat (IntKind.u8.wrap (shrI IntKind.i64 n12 8)).toNat, UInt8.ofNat (IntKind.u8.wrap n14).toNat]) (IntKind.i64.wrap (n7 + 1))) none) none))) (br (decide (n7 = 1)) (br (decide (n7 = 0)) (br (decide ((l0.length + [UInt8.ofNat (IntKind.u8.wrap (shrI IntKind.i64 n13 24)).toNat, UInt8.ofNat (IntKind.u8.wrap (shrI IntKind.i64 n12 16)).toNat, UInt8.ofNat (IntKind.u8.wrap (shrI IntKind.i64 n13 8)).toNat, UInt8.ofNat (IntKind.u8.wrap n12).toNat].length) * 1 ≤ 140737488355328)) (Lq (l0 ++ [UInt8.ofNat (IntKind.u8.wrap (shrI IntKind.i64 n13 24)).toNat, UInt8.ofNat (IntKind.u8.wrap (shrI IntKind.i64 n12 16)).toNat, UInt8.ofNat (IntKind.u8.wrap (shrI IntKind.i64 n13 8)).toNat, UInt8.ofNat (IntKind.u8.wrap n12).toNat]) (IntKind.i64.wrap (n7 + 1))) none) (br (decide (n7 = 1)) (br (decide ((l0.length + [UInt8.ofNat (IntKind.u8.wrap (shrI IntKind.i64 n13 24)).toNat, UInt8.ofNat (IntKind.u8.wrap (shrI IntKind.i64 n12 16)).toNat, UInt8.ofNat (IntKind.u8.wrap (shrI IntKind.i64 n13 8)).toNat, UInt8.ofNat (IntKind.u8.wrap n13).toNat].length) * 1 ≤ 140737488355328)) (Lq (l0 ++ [UInt8.ofNat (IntKind.u8.wrap (shrI IntKind.i64 n13 24)).toNat, UInt8.ofNat (IntKind.u8.wrap (shrI IntKind.i64 n12 16)).toNat, UInt8.ofNat (IntKind.u8.wrap (shrI IntKind.i64 n13 8)).toNat, UInt8.ofNat (IntKind.u8.wrap n13).toNat]) (IntKind.i64.wrap (n7 + 1))) none) (br (decide (n7 = 2)) (br (decide ((l0.length + [UInt8.ofNat (IntKind.u8.wrap (shrI IntKind.i64 n13 24)).toNat, UInt8.ofNat (IntKind.u8.wrap (shrI IntKind.i64 n12 16)).toNat, UInt8.ofNat (IntKind.u8.wrap (shrI IntKind.i64 n13 8)).toNat, UInt8.ofNat (IntKind.u8.wrap n14).toNat].length) * 1 ≤ 140737488355328)) (Lq (l0 ++ [UInt8.ofNat (IntKind.u8.wrap (shrI IntKind.i64 n13 24)).toNat, UInt8.ofNat (IntKind.u8.wrap (shrI IntKind.i64 n12 16)).toNat, UInt8.ofNat (IntKind.u8.wrap (shrI IntKind.i64 n13 8)).toNat, UInt8.ofNat (IntKind.u8.wrap n14).toNat]) (IntKind.i64.wrap (n7 + 1))) none) none))) (br (decide (n7 = 2)) (br (decide (n7 = 0)) (br (decide ((l0.length + [UInt8.ofNat (IntKind.u8.wrap (shrI IntKind.i64 n13 24)).toNat, UInt8.ofNat (IntKind.u8.wrap (shrI IntKind.i64 n12 16)).toNat, UInt8.ofNat (IntKind.u8.wrap (shrI IntKind.i64 n14 8)).toNat, UInt8.ofNat (IntKind.u8.wrap n12).toNat].length) * 1 ≤ 140737488355328)) (Lq (l0 ++ [UInt8.ofNat (IntKind.u8.wrap (shrI IntKind.i64 n13 24)).toNat, UInt8.ofNat (IntKind.u8.wrap (shrI IntKind.i64 n12 16)).toNat, UInt8.ofNat (IntKind.u8.wrap (shrI IntKind.i64 n14 8)).toNat, UInt8.ofNat (IntKind.u8.wrap n12).toNat]) (IntKind.i64.wrap (n7 + 1))) none) (br (decide (n7 = 1)) (br (decide ((l0.length + [UInt8.ofNat (IntKind.u8.wrap (shrI IntKind.i64 n13 24)).toNat, UInt8.ofNat (IntKind.u8.wrap (shrI IntKind.i64 n12 16)).toNat, UInt8.ofNat (IntKind.u8.wrap (shrI IntKind.i64 n14 8)).toNat, UInt8.ofNat (IntKind.u8.wrap n13).toNat].length) * 1 ≤ 140737488355328)) (Lq (l0 ++ [UInt8.ofNat (IntKind.u8.wrap (shrI IntKind.i64 n13 24)).toNat, UInt8.ofNat (IntKind.u8.wrap (shrI IntKind.i64 n12 16)).toNat, UInt8.ofNat (IntKind.u8.wrap (shrI IntKind.i64 n14 8)).toNat, UInt8.ofNat (IntKind.u8.wrap n13).toNat]) (IntKind.i64.wrap (n7 + 1))) none) (br (decide (n7 = 2)) (br (decide ((l0.length + [UInt8.ofNat (IntKind.u8.wrap (shrI IntKind.i64 n13 24)).toNat, UInt8.ofNat (IntKind.u8.wrap (shrI IntKind.i64 n12 16)).toNat, UInt8.ofNat (IntKind.u8.wrap (shrI IntKind.i64 n14 8)).toNat, UInt8.ofNat (IntKind.u8.wrap n14).toNat].length) * 1 ≤ 140737488355328)) (Lq (l0 ++ [UInt8.ofNat (IntKind.u8.wrap (shrI IntKind.i64 n13 24)).toNat, UInt8.ofNat (IntKind.u8.wrap (shrI IntKind.i64 n12 16)).toNat, UInt8.ofNat (IntKind.u8.wrap (shrI IntKind.i64 n14 8)).toNat, UInt8.ofNat (IntKind.u8.wrap n14).toNat]) (IntKind.i64.wrap (n7 + 1))) none) none))) none))) (br (decide (n7 = 1)) (br (decide (n7 = 0)) (br (decide (n7 = 0)) (br (decide ((l0.length + [UInt8.ofNat (IntKind.u8.wrap (shrI IntKind.i64 n13 24)).toNat, UInt8.ofNat (IntKind.u8.wrap (shrI IntKind.i64 n13 16)).toNat, UInt8.ofNat (IntKind.u8.wrap (shrI IntKind.i64 n12 8)).toNat, UInt8.ofNat (IntKind.u8.wrap n12).toNat].length) * 1 ≤ 140737488355328)) (Lq (l0 ++ [UInt8.ofNat (IntKind.u8.wrap (shrI IntKind.i64 n13 24)).toNat, UInt8.ofNat (IntKind.u8.wrap (shrI IntKind.i64 n13 16)).toNat, UInt8.ofNat (IntKind.u8.wrap (shrI IntKind.i64 n12 8)).toNat, UInt8.ofNat (IntKind.u8.wrap n12).toNat]) (IntKind.i64.wrap (n7 + 1))) none) (br (decide (n7 = 1)) (br (decide ((l0.length + [UInt8.ofNat (IntKind.u8.wrap (shrI IntKind.i64 n13 24)).toNat, UInt8.ofNat (IntKind.u8.wrap (shrI IntKind.i64 n13 16)).toNat, UInt8.ofNat (IntKind.u8.wrap (shrI IntKind.i64 n12 8)).toNat, UInt8.ofNat (IntKind.u8.wrap n13).toNat].length) * 1 ≤ 140737488355328)) (Lq (l0 ++ [UInt8.ofNat (IntKind.u8.wrap (shrI IntKind.i64 n13 24)).toNat, UInt8.ofNat (IntKind.u8.wrap (shrI IntKind.i64 n13 16)).toNat, UInt8.ofNat (IntKind.u8.wrap (shrI IntKind.i64 n12 8)).toNat, UInt8.ofNat (IntKind.u8.wrap n13).toNat]) (IntKind.i64.wrap (n7 + 1))) none) (br (decide (n7 = 2)) (br (decide ((l0.length + [UInt8.ofNat (IntKind.u8.wrap (shrI IntKind.i64 n13 24)).toNat, UInt8.ofNat (IntKind.u8.wrap (shrI IntKind.i64 n13 16)).toNat, UInt8.ofNat (IntKind.u8.wrap (shrI IntKind.i64 n12 8)).toNat, UInt8.ofNat (IntKind.u8.wrap n14).toNat].length) * 1 ≤ 140737488355328)) (Lq (l0 ++ [UInt8.ofNat (IntKind.u8.wrap (shrI IntKind.i64 n13 24)).toNat, UInt8.ofNat (IntKind.u8.wrap (shrI IntKind.i64 n13 16)).toNat, UInt8.ofNat (IntKind.u8.wrap (shrI IntKind.i64 n12 8)).toNat, UInt8.ofNat (IntKind.u8.wrap n14).toNat]) (IntKind.i64.wrap (n7 + 1))) none) none))) (br (decide (n7 = 1)) (br (decide (n7 = 0)) (br (decide ((l0.length + [UInt8.ofNat (IntKind.u8.wrap (shrI IntKind.i64 n13 24)).toNat, UInt8.ofNat (IntKind.u8.wrap (shrI IntKind.i64 n13 16)).toNat, UInt8.ofNat (IntKind.u8.wrap (shrI IntKind.i64 n13 8)).toNat, UInt8.ofNat (IntKind.u8.wrap n12).toNat].length) * 1 ≤ 140737488355328)) (Lq (l0 ++ [UInt8.ofNat (IntKind.u8.wrap (shrI IntKind.i64 n13 24)).toNat, UInt8.ofNat (IntKind.u8.wrap (shrI IntKind.i64 n13 16)).toNat, UInt8.ofNat (IntKind.u8.wrap (shrI IntKind.i64 n13 8)).toNat, UInt8.ofNat (IntKind.u8.wrap n12).toNat]) (IntKind.i64.wrap (n7 + 1))) none) (br (decide (n7 = 1)) (br (decide ((l0.length + [UInt8.ofNat (IntKind.u8.wrap (shrI IntKind.i64 n13 24)).toNat, UInt8.ofNat (IntKind.u8.wrap (shrI IntKind.i64 n13 16)).toNat, UInt8.ofNat (IntKind.u8.wrap (shrI IntKind.i64 n13 8)).toNat, UInt8.ofNat (IntKind.u8.wrap n13).toNat].length) * 1 ≤ 140737488355328)) (Lq (l0 ++ [UInt8.ofNat (IntKind.u8.wrap (shrI IntKind.i64 n13 24)).toNat, UInt8.ofNat (IntKind.u8.wrap (shrI IntKind.i64 n13 16)).toNat, UInt8.ofNat (IntKind.u8.wrap (shrI IntKind.i64 n13 8)).toNat, UInt8.ofNat (IntKind.u8.wrap n13).toNat]) (IntKind.i64.wrap (n7 + 1))) none) (br (decide (n7 = 2)) (br (decide ((l0.length + [UInt8.ofNat (IntKind.u8.wrap (shrI IntKind.i64 n13 24)).toNat, UInt8.ofNat (IntKind.u8.wrap (shrI IntKind.i64 n13 16)).toNat, UInt8.ofNat (IntKind.u8.wrap (shrI IntKind.i64 n13 8)).toNat, UInt8.ofNat (IntKind.u8.wrap n14).toNat].length) * 1 ≤ 140737488355328)) (Lq (l0 ++ [UInt8.ofNat (IntKind.u8.wrap (shrI IntKind.i64 n13 24)).toNat, UInt8.ofNat (IntKind.u8.wrap (shrI IntKind.i64 n13 16)).toNat, UInt8.ofNat (IntKind.u8.wrap (shrI IntKind.i64 n13 8)).toNat, UInt8.ofNat (IntKind.u8.wrap n14).toNat]) (IntKind.i64.wrap (n7 + 1))) none) none))) (br (decide (n7 = 2)) (br (decide (n7 = 0)) (br (decide ((l0.length + [UInt8.ofNat (IntKind.u8.wrap (shrI IntKind.i64 n13 24)).toNat, UInt8.ofNat (IntKind.u8.wrap (shrI IntKind.i64 n13 16)).toNat, UInt8.ofNat (IntKind.u8.wrap (shrI IntKind.i64 n14 8)).toNat, UInt8.ofNat (IntKind.u8.wrap n12).toNat].length) * 1 ≤ 140737488355328)) (Lq (l0 ++ [UInt8.ofNat (IntKind.u8.wrap (shrI IntKind.i64 n13 24)).toNat, UInt8.ofNat (IntKind.u8.wrap (shrI IntKind.i64 n13 16)).toNat, UInt8.ofNat (IntKind.u8.wrap (shrI IntKind.i64 n14 8)).toNat, UInt8.ofNat (IntKind.u8.wrap n12).toNat]) (IntKind.i64.wrap (n7 + 1))) none) (br (decide (n7 = 1)) (br (decide ((l0.length + [UInt8.ofNat (IntKind.u8.wrap (shrI IntKind.i64 n13 24)).toNat, UInt8.ofNat (IntKind.u8.wrap (shrI IntKind.i64 n13 16)).toNat, UInt8.ofNat (IntKind.u8.wrap (shrI IntKind.i64 n14 8)).toNat, UInt8.ofNat (IntKind.u8.wrap n13).toNat].length) * 1 ≤ 140737488355328)) (Lq (l0 ++ [UInt8.ofNat (IntKind.u8.wrap (shrI IntKind.i64 n13 24)).toNat, UInt8.ofNat (IntKind.u8.wrap (shrI IntKind.i64 n13 16)).toNat, UInt8.ofNat (IntKind.u8.wrap (shrI IntKind.i64 n14 8)).toNat, UInt8.ofNat (IntKind.u8.wrap n13).toNat]) (IntKind.i64.wrap (n7 + 1))) none) (br (decide (n7 = 2)) (br (decide ((l0.length + [UInt8.ofNat (IntKind.u8.wrap (shrI IntKind.i64 n13 24)).toNat, UInt8.ofNat (IntKind.u8.wrap (shrI IntKind.i64 n13 16)).toNat, UInt8.ofNat (IntKind.u8.wrap (shrI IntKind.i64 n14 8)).toNat, UInt8.ofNat (IntKind.u8.wrap n14).toNat].length) * 1 ≤ 140737488355328)) (Lq (l0 ++ [UInt8.ofNat (IntKind.u8.wrap (shrI IntKind.i64 n13 24)).toNat, UInt8.ofNat (IntKind.u8.wrap (shrI IntKind.i64 n13 16)).toNat, UInt8.ofNat (IntKind.u8.wrap (shrI IntKind.i64 n14 8)).toNat, UInt8.ofNat (IntKind.u8.wrap n14).toNat]) (IntKind.i64.wrap (n7 + 1))) none) none))) none))) (br (decide (n7 = 2)) (br (decide (n7 = 0)) (br (decide (n7 = 0)) (br (decide ((l0.length + [UInt8.ofNat (IntKind.u8.wrap (shrI IntKind.i64 n13 24)).toNat, UInt8.ofNat (IntKind.u8.wrap (shrI IntKind.i64 n14 16)).toNat, UInt8.ofNat (IntKind.u8.wrap (shrI IntKind.i64 n12 8)).toNat, UInt8.ofNat (IntKind.u8.wrap n12).toNat].length) * 1 ≤ 140737488355328)) (Lq (l0 ++ [UInt8.ofNat (IntKind.u8.wrap (shrI IntKind.i64 n13 24)).toNat, UInt8.ofNat (IntKind.u8.wrap (shrI IntKind.i64 n14 16)).toNat, UInt8.ofNat (IntKind.u8.wrap (shrI IntKind.i64 n12 8)).toNat, UInt8.ofNat (IntKind.u8.wrap n12).toNat]) (IntKind.i64.wrap (n7 + 1))) none) (br (decide (n7 = 1)) (br (decide ((l0.length + [UInt8.ofNat (IntKind.u8.wrap (shrI IntKind.i64 n13 24)).toNat, UInt8.ofNat (IntKind.u8.wrap (shrI IntKind.i64 n14 16)).toNat, UInt8.ofNat (IntKind.u8.wrap (shrI IntKind.i64 n12 8)).toNat, UInt8.ofNat (IntKind.u8.wrap n13).toNat].length) * 1 ≤ 140737488355328)) (Lq (l0 ++ [UInt8.ofNat (IntKind.u8.wrap (shrI IntKind.i64 n13 24)).toNat, UInt8.ofNat (IntKind.u8.wrap (shrI IntKind.i64 n14 16)).toNat, UInt8.ofNat (IntKind.u8.wrap (shrI IntKind.i64 n12 8)).toNat, UInt8.ofNat (IntKind.u8.wrap n13).toNat]) (IntKind.i64.wrap (n7 + 1))) none) (br (decide (n7 = 2)) (br (decide ((l0.length + [UInt8.ofNat (IntKind.u8.wrap (shrI IntKind.i64 n13 24)).toNat, UInt8.ofNat (IntKind.u8.wrap (shrI IntKind.i64 n14 16)).toNat, UInt8.ofNat (IntKind.u8.wrap (shrI IntKind.i64 n12 8)).toNat, UInt8.ofNat (IntKind.u8.wrap n14).toNat].length) * 1 ≤ 140737488355328)) (Lq (l0 ++ [UInt8.ofNat (IntKind.u8.wrap (shrI IntKind.i64 n13 24)).toNat, UInt8.ofNat (IntKind.u8.wrap (shrI IntKind.i64 n14 16)).toNat, UInt8.ofNat (IntKind.u8.wrap (shrI IntKind.i64 n12 8)).toNat, UInt8.ofNat (IntKind.u8.wrap n14).toNat]) (IntKind.i64.wrap (n7 + 1))) none) none))) (br (decide (n7 = 1)) (br (decide (n7 = 0)) (br (decide ((l0.length + [UInt8.ofNat (IntKind.u8.wrap (shrI IntKind.i64 n13 24)).toNat, UInt8.ofNat (IntKind.u8.wrap (shrI IntKind.i64 n14 16)).toNat, UInt8.ofNat (IntKind.u8.wrap (shrI IntKind.i64 n13 8)).toNat, UInt8.ofNat (IntKind.u8.wrap n12).toNat].length) * 1 ≤ 140737488355328)) (Lq (l0 ++ [UInt8.ofNat (IntKind.u8.wrap (shrI IntKind.i64 n13 24)).toNat, UInt8.ofNat (IntKind.u8.wrap (shrI IntKind.i64 n14 16)).toNat, UInt8.ofNat (IntKind.u8.wrap (shrI IntKind.i64 n13 8)).toNat, UInt8.ofNat (IntKind.u8.wrap n12).toNat]) (IntKind.i64.wrap (n7 + 1))) none) (br (decide (n7 = 1)) (br (decide ((l0.length + [UInt8.ofNat (IntKind.u8.wrap (shrI IntKind.i64 n13 24)).toNat, UInt8.ofNat (IntKind.u8.wrap (shrI IntKind.i64 n14 16)).toNat, UInt8.ofNat (IntKind.u8.wrap (shrI IntKind.i64 n13 8)).toNat, UInt8.ofNat (IntKind.u8.wrap n13).toNat].length) * 1 ≤ 140737488355328)) (Lq (l0 ++ [UInt8.ofNat (IntKind.u8.wrap (shrI IntKind.i64 n13 24)).toNat, UInt8.ofNat (IntKind.u8.wrap (shrI IntKind.i64 n14 16)).toNat, UInt8.ofNat (IntKind.u8.wrap (shrI IntKind.i64 n13 8)).toNat, UInt8.ofNat (IntKind.u8.wrap n13).toNat]) (IntKind.i64.wrap (n7 + 1))) none) (br (decide (n7 = 2)) (br (decide ((l0.length + [UInt8.ofNat (IntKind.u8.wrap (shrI IntKind.i64 n13 24)).toNat, UInt8.ofNat (IntKind.u8.wrap (shrI IntKind.i64 n14 16)).toNat, UInt8.ofNat (IntKind.u8.wrap (shrI IntKind.i64 n13 8)).toNat, UInt8.ofNat (IntKind.u8.wrap n14).toNat].length) * 1 ≤ 140737488355328)) (Lq (l0 ++ [UInt8.ofNat (IntKind.u8.wrap (shrI IntKind.i64 n13 24)).toNat, UInt8.ofNat (IntKind.u8.wrap (shrI IntKind.i64 n14 16)).toNat, UInt8.ofNat (IntKind.u8.wrap (shrI IntKind.i64 n13 8)).toNat, UInt8.ofNat (IntKind.u8.wrap n14).toNat]) (IntKind.i64.wrap (n7 + 1))) none) none))) (br (decide (n7 = 2)) (br (decide (n7 = 0)) (br (decide ((l0.length + [UInt8.ofNat (IntKind.u8.wrap (shrI IntKind.i64 n13 24)).toNat, UInt8.ofNat (IntKind.u8.wrap (shrI IntKind.i64 n14 16)).toNat, UInt8.ofNat (IntKind.u8.wrap (shrI IntKind.i64 n14 8)).toNat, UInt8.ofNat (IntKind.u8.wrap n12).toNat].length) * 1 ≤ 140737488355328)) (Lq (l0 ++ [UInt8.ofNat (IntKind.u8.wrap (shrI IntKind.i64 n13 24)).toNat, UInt8.ofNat (IntKind.u8.wrap (shrI IntKind.i64 n14 16)).toNat, UInt8.ofNat (IntKind.u8.wrap (shrI IntKind.i64 n14 8)).toNat, UInt8.ofNat (IntKind.u8.wrap n12).toNat]) (IntKind.i64.wrap (n7 + 1))) none) (br (decide (n7 = 1)) (br (decide ((l0.length + [UInt8.ofNat (IntKind.u8.wrap (shrI IntKind.i64 n13 24)).toNat, UInt8.ofNat (IntKind.u8.wrap (shrI IntKind.i64 n14 16)).toNat, UInt8.ofNat (IntKind.u8.wrap (shrI IntKind.i64 n14 8)).toNat, UInt8.ofNat (IntKind.u8.wrap n13).toNat].length) * 1 ≤ 140737488355328)) (Lq (l0 ++ [UInt8.ofNat (IntKind.u8.wrap (shrI IntKind.i64 n13 24)).toNat, UInt8.ofNat (IntKind.u8.wrap (shrI IntKind.i64 n14 16)).toNat, UInt8.ofNat (IntKind.u8.wrap (shrI IntKind.i64 n14 8)).toNat, UInt8.ofNat (IntKind.u8.wrap n13).toNat]) (IntKind.i64.wrap (n7 + 1))) none) (br (decide (n7 = 2)) (br (decide ((l0.length + [UInt8.ofNat (IntKind.u8.wrap (shrI IntKind.i64 n13 24)).toNat, UInt8.ofNat (IntKind.u8.wrap (shrI IntKind.i64 n14 16)).toNat, UInt8.ofNat (IntKind.u8.wrap (shrI IntKind.i64 n14 8)).toNat, UInt8.ofNat (IntKind.u8.wrap n14).toNat].length) * 1 ≤ 140737488355328)) (Lq (l0 ++ [UInt8.ofNat (IntKind.u8.wrap (shrI IntKind.i64 n13 24)).toNat, UInt8.ofNat (IntKind.u8.wrap (shrI IntKind.i64 n14 16)).toNat, UInt8.ofNat (IntKind.u8.wrap (shrI IntKind.i64 n14 8)).toNat, UInt8.ofNat (IntKind.u8.wrap n14).toNat]) (IntKind.i64.wrap (n7 + 1))) none) none))) none))) none))) (br (decide (n7 = 2)) (br (decide (n7 = 0)) (br (decide (n7 = 0)) (br (decide (n7 = 0)) (br (decide ((l0.length + [UInt8.ofNat (IntKind.u8.wrap (shrI IntKind.i64 n14 24)).toNat, UInt8.ofNat (IntKind.u8.wrap (shrI IntKind.i64 n12 16)).toNat, UInt8.ofNat (IntKind.u8.wrap (shrI IntKind.i64 n12 8)).toNat, UInt8.ofNat (IntKind.u8.wrap n12).toNat].length) * 1 ≤ 140737488355328)) (Lq (l0 ++ [UInt8.ofNat (IntKind.u8.wrap (shrI IntKind.i64 n14 24)).toNat, UInt8.ofNat (IntKind.u8.wrap (shrI IntKind.i64 n12 16)).toNat, UInt8.ofNat (IntKind.u8.wrap (shrI IntKind.i64 n12 8)).toNat, UInt8.ofNat (IntKind.u8.wrap n12).toNat]) (IntKind.i64.wrap (n7 + 1))) none) (br (decide (n7 = 1)) (br (decide ((l0.length + [UInt8.ofNat (IntKind.u8.wrap (shrI IntKind.i64 n14 24)).toNat, UInt8.ofNat (IntKind.u8.wrap (shrI IntKind.i64 n12 16)).toNat, UInt8.ofNat (IntKind.u8.wrap (shrI IntKind.i64 n12 8)).toNat, UInt8.ofNat (IntKind.u8.wrap n13).toNat].length) * 1 ≤ 140737488355328)) (Lq (l0 ++ [UInt8.ofNat (IntKind.u8.wrap (shrI IntKind.i64 n14 24)).toNat, UInt8.ofNat (IntKind.u8.wrap (shrI IntKind.i64 n12 16)).toNat, UInt8.ofNat (IntKind.u8.wrap (shrI IntKind.i64 n12 8)).toNat, UInt8.ofNat (IntKind.u8.wrap n13).toNat]) (IntKind.i64.wrap (n7 + 1))) none) (br (decide (n7 = 2)) (br (decide ((l0.length + [UInt8.ofNat (IntKind.u8.wrap (shrI IntKind.i64 n14 24)).toNat, UInt8.ofNat (IntKind.u8.wrap (shrI IntKind.i64 n12 16)).toNat, UInt8.ofNat (IntKind.u8.wrap (shrI IntKind.i64 n12 8)).toNat, UInt8.ofNat (IntKind.u8.wrap n14).toNat].length) * 1 ≤ 140737488355328)) (Lq (l0 ++ [UInt8.ofNat (IntKind.u8.wrap (shrI IntKind.i64 n14 24)).toNat, UInt8.ofNat (IntKind.u8.wrap (shrI IntKind.i64 n12 16)).toNat, UInt8.ofNat (IntKind.u8.wrap (shrI IntKind.i64 n12 8)).toNat, UInt8.ofNat (IntKind.u8.wrap n14).toNat]) (IntKind.i64.wrap (n7 + 1))) none) none))) (br (decide (n7 = 1)) (br (decide (n7 = 0)) (br (decide ((l0.length + [UInt8.ofNat (IntKind.u8.wrap (shrI IntKind.i64 n14 24)).toNat, UInt8.ofNat (IntKind.u8.wrap (shrI IntKind.i64 n12 16)).toNat, UInt8.ofNat (IntKind.u8.wrap (shrI IntKind.i64 n13 8)).toNat, UInt8.ofNat (IntKind.u8.wrap n12).toNat].length) * 1 ≤ 140737488355328)) (Lq (l0 ++ [UInt8.ofNat (IntKind.u8.wrap (shrI IntKind.i64 n14 24)).toNat, UInt8.ofNat (IntKind.u8.wrap (shrI IntKind.i64 n12 16)).toNat, UInt8.ofNat (IntKind.u8.wrap (shrI IntKind.i64 n13 8)).toNat, UInt8.ofNat (IntKind.u8.wrap n12).toNat]) (IntKind.i64.wrap (n7 + 1))) none) (br (decide (n7 = 1)) (br (decide ((l0.length + [UInt8.ofNat (IntKind.u8.wrap (shrI IntKind.i64 n14 24)).toNat, UInt8.ofNat (IntKind.u8.wrap (shrI IntKind.i64 n12 16)).toNat, UInt8.ofNat (IntKind.u8.wrap (shrI IntKind.i64 n13 8)).toNat, UInt8.ofNat (IntKind.u8.wrap n13).toNat].length) * 1 ≤ 140737488355328)) (Lq (l0 ++ [UInt8.ofNat (IntKind.u8.wrap (shrI IntKind.i64 n14 24)).toNat, UInt8.ofNat (IntKind.u8.wrap (shrI IntKind.i64 n12 16)).toNat, UInt8.ofNat (IntKind.u8.wrap (shrI IntKind.i64 n13 8)).toNat, UInt8.ofNat (IntKind.u8.wrap n13).toNat]) (IntKind.i64.wrap (n7 + 1))) none) (br (decide (n7 = 2)) (br (decide ((l0.length + [UInt8.ofNat (IntKind.u8.wrap (shrI IntKind.i64 n14 24)).toNat, UInt8.ofNat (IntKind.u8.wrap (shrI IntKind.i64 n12 16)).toNat, UInt8.ofNat (IntKind.u8.wrap (shrI IntKind.i64 n13 8)).toNat, UInt8.ofNat (IntKind.u8.wrap n14).toNat].length) * 1 ≤ 140737488355328)) (Lq (l0 ++ [UInt8.ofNat (IntKind.u8.wrap (shrI IntKind.i64 n14 24)).toNat, UInt8.ofNat (IntKind.u8.wrap (shrI IntKind.i64 n12 16)).toNat, UInt8.ofNat (IntKind.u8.wrap (shrI IntKind.i64 n13 8)).toNat, UInt8.ofNat (IntKind.u8.wrap n14).toNat]) (IntKind.i64.wrap (n7 + 1))) none) none))) (br (decide (n7 = 2)) (br (decide (n7 = 0)) (br (decide ((l0.length + [UInt8.ofNat (IntKind.u8.wrap (shrI IntKind.i64 n14 24)).toNat, UInt8.ofNat (IntKind.u8.wrap (shrI IntKind.i64 n12 16)).toNat, UInt8.ofNat (IntKind.u8.wrap (shrI IntKind.i64 n14 8)).toNat, UInt8.ofNat (IntKind.u8.wrap n12).toNat].length) * 1 ≤ 140737488355328)) (Lq (l0 ++ [UInt8.ofNat (IntKind.u8.wrap (shrI IntKind.i64 n14 24)).toNat, UInt8.ofNat (IntKind.u8.wrap (shrI IntKind.i64 n12 16)).toNat, UInt8.ofNat (IntKind.u8.wrap (shrI IntKind.i64 n14 8)).toNat, UInt8.ofNat (IntKind.u8.wrap n12).toNat]) (IntKind.i64.wrap (n7 + 1))) none) (br (decide (n7 = 1)) (br (decide ((l0.length + [UInt8.ofNat (IntKind.u8.wrap (shrI IntKind.i64 n14 24)).toNat, UInt8.ofNat (IntKind.u8.wrap (shrI IntKind.i64 n12 16)).toNat, UInt8.ofNat (IntKind.u8.wrap (shrI IntKind.i64 n14 8)).toNat, UInt8.ofNat (IntKind.u8.wrap n13).toNat].length) * 1 ≤ 140737488355328)) (Lq (l0 ++ [UInt8.ofNat (IntKind.u8.wrap (shrI IntKind.i64 n14 24)).toNat, UInt8.ofNat (IntKind.u8.wrap (shrI IntKind.i64 n12 16)).toNat, UInt8.ofNat (IntKind.u8.wrap (shrI IntKind.i64 n14 8)).toNat, UInt8.ofNat (IntKind.u8.wrap n13).toNat]) (IntKind.i64.wrap (n7 + 1))) none) (br (decide (n7 = 2)) (br (decide ((l0.length + [UInt8.ofNat (IntKind.u8.wrap (shrI IntKind.i64 n14 24)).toNat, UInt8.ofNat (IntKind.u8.wrap (shrI IntKind.i64 n12 16)).toNat, UInt8.ofNat (IntKind.u8.wrap (shrI IntKind.i64 n14 8)).toNat, UInt8.ofNat (IntKind.u8.wrap n14).toNat].length) * 1 ≤ 140737488355328)) (Lq (l0 ++ [UInt8.ofNat (IntKind.u8.wrap (shrI IntKind.i64 n14 24)).toNat, UInt8.ofNat (IntKind.u8.wrap (shrI IntKind.i64 n12 16)).toNat, UInt8.ofNat (IntKind.u8.wrap (shrI IntKind.i64 n14 8)).toNat, UInt8.ofNat (IntKind.u8.wrap n14).toNat]) (IntKind.i64.wrap (n7 + 1))) none) none))) none))) (br (decide (n7 = 1)) (br (decide (n7 = 0)) (br (decide (n7 = 0)) (br (decide ((l0.length + [UInt8.ofNat (IntKind.u8.wrap (shrI IntKind.i64 n14 24)).toNat, UInt8.ofNat (IntKind.u8.wrap (shrI IntKind.i64 n13 16)).toNat, UInt8.ofNat (IntKind.u8.wrap (shrI IntKind.i64 n12 8)).toNat, UInt8.ofNat (IntKind.u8.wrap n12).toNat].length) * 1 ≤ 140737488355328)) (Lq (l0 ++ [UInt8.ofNat (IntKind.u8.wrap (shrI IntKind.i64 n14 24)).toNat, UInt8.ofNat (IntKind.u8.wrap (shrI IntKind.i64 n13 16)).toNat, UInt8.ofNat (IntKind.u8.wrap (shrI IntKind.i64 n12 8)).toNat, UInt8.ofNat (IntKind.u8.wrap n12).toNat]) (IntKind.i64.wrap (n7 + 1))) none) (br (decide (n7 = 1)) (br (decide ((l0.length + [UInt8.ofNat (IntKind.u8.wrap (shrI IntKind.i64 n14 24)).toNat, UInt8.ofNat (IntKind.u8.wrap (shrI IntKind.i64 n13 16)).toNat, UInt8.ofNat (IntKind.u8.wrap (shrI IntKind.i64 n12 8)).toNat, UInt8.ofNat (IntKind.u8.wrap n13).toNat].length) * 1 ≤ 140737488355328)) (Lq (l0 ++ [UInt8.ofNat (IntKind.u8.wrap (shrI IntKind.i64 n14 24)).toNat, UInt8.ofNat (IntKind.u8.wrap (shrI IntKind.i64 n13 16)).toNat, UInt8.ofNat (IntKind.u8.wrap (shrI IntKind.i64 n12 8)).toNat, UInt8.ofNat (IntKind.u8.wrap n13).toNat]) (IntKind.i64.wrap (n7 + 1))) none) (br (decide (n7 = 2)) (br (decide ((l0.length + [UInt8.ofNat (IntKind.u8.wrap (shrI IntKind.i64 n14 24)).toNat, UInt8.ofNat (IntKind.u8.wrap (shrI IntKind.i64 n13 16)).toNat, UInt8.ofNat (IntKind.u8.wrap (shrI IntKind.i64 n12 8)).toNat, UInt8.ofNat (IntKind.u8.wrap n14).toNat].length) * 1 ≤ 140737488355328)) (Lq (l0 ++ [UInt8.ofNat (IntKind.u8.wrap (shrI IntKind.i64 n14 24)).toNat, UInt8.ofNat (IntKind.u8.wrap (shrI IntKind.i64 n13 16)).toNat, UInt8.ofNat (IntKind.u8.wrap (shrI IntKind.i64 n12 8)).toNat, UInt8.ofNat (IntKind.u8.wrap n14).toNat]) (IntKind.i64.wrap (n7 + 1))) none) none))) (br (decide (n7 = 1)) (br (decide (n7 = 0)) (br (decide ((l0.length + [UInt8.ofNat (IntKind.u8.wrap (shrI IntKind.i64 n14 24)).toNat, UInt8.ofNat (IntKind.u8.wrap (shrI IntKind.i64 n13 16)).toNat, UInt8.ofNat (IntKind.u8.wrap (shrI IntKind.i64 n13 8)).toNat, UInt8.ofNat (IntKind.u8.wrap n12).toNat].length) * 1 ≤ 140737488355328)) (Lq (l0 ++ [UInt8.ofNat (IntKind.u8.wrap (shrI IntKind.i64 n14 24)).toNat, UInt8.ofNat (IntKind.u8.wrap (shrI IntKind.i64 n13 16)).toNat, UInt8.ofNat (IntKind.u8.wrap (shrI IntKind.i64 n13 8)).toNat, UInt8.ofNat (IntKind.u8.wrap n12).toNat]) (IntKind.i64.wrap (n7 + 1))) none) (br (decide (n7 = 1)) (br (decide ((l0.length + [UInt8.ofNat (IntKind.u8.wrap (shrI IntKind.i64 n14 24)).toNat, UInt8.ofNat (IntKind.u8.wrap (shrI IntKind.i64 n13 16)).toNat, UInt8.ofNat (IntKind.u8.wrap (shrI IntKind.i64 n13 8)).toNat, UInt8.ofNat (IntKind.u8.wrap n13).toNat].length) * 1 ≤ 140737488355328)) (Lq (l0 ++ [UInt8.ofNat (IntKind.u8.wrap (shrI IntKind.i64 n14 24)).toNat, UInt8.ofNat (IntKind.u8.wrap (shrI IntKind.i64 n13 16)).toNat, UInt8.ofNat (IntKind.u8.wrap (shrI IntKind.i64 n13 8)).toNat, UInt8.ofNat (IntKind.u8.wrap n13).toNat]) (IntKind.i64.wrap (n7 + 1))) none) (br (decide (n7 = 2)) (br (decide ((l0.length + [UInt8.ofNat (IntKind.u8.wrap (shrI IntKind.i64 n14 24)).toNat, UInt8.ofNat (IntKind.u8.wrap (shrI IntKind.i64 n13 16)).toNat, UInt8.ofNat (IntKind.u8.wrap (shrI IntKind.i64 n13 8)).toNat, UInt8.ofNat (IntKind.u8.wrap n14).toNat].length) * 1 ≤ 140737488355328)) (Lq (l0 ++ [UInt8.ofNat (IntKind.u8.wrap (shrI IntKind.i64 n14 24)).toNat, UInt8.ofNat (IntKind.u8.wrap (shrI IntKind.i64 n13 16)).toNat, UInt8.ofNat (IntKind.u8.wrap (shrI IntKind.i64 n13 8)).toNat, UInt8.ofNat (IntKind.u8.wrap n14).toNat]) (IntKind.i64.wrap (n7 + 1))) none) none))) (br (decide (n7 = 2)) (br (decide (n7 = 0)) (br (decide ((l0.length + [UInt8.ofNat (IntKind.u8.wrap (shrI IntKind.i64 n14 24)).toNat, UInt8.ofNat (IntKind.u8.wrap (shrI IntKind.i64 n13 16)).toNat, UInt8.ofNat (IntKind.u8.wrap (shrI IntKind.i64 n14 8)).toNat, UInt8.ofNat (IntKind.u8.wrap n12).toNat].length) * 1 ≤ 140737488355328)) (Lq (l0 ++ [UInt8.ofNat (IntKind.u8.wrap (shrI IntKind.i64 n14 24)).toNat, UInt8.ofNat (IntKind.u8.wrap (shrI IntKind.i64 n13 16)).toNat, UInt8.ofNat (IntKind.u8.wrap (shrI IntKind.i64 n14 8)).toNat, UInt8.ofNat (IntKind.u8.wrap n12).toNat]) (IntKind.i64.wrap (n7 + 1))) none) (br (decide (n7 = 1)) (br (decide ((l0.length + [UInt8.ofNat (IntKind.u8.wrap (shrI IntKind.i64 n14 24)).toNat, UInt8.ofNat (IntKind.u8.wrap (shrI IntKind.i64 n13 16)).toNat, UInt8.ofNat (IntKind.u8.wrap (shrI IntKind.i64 n14 8)).toNat, UInt8.ofNat (IntKind.u8.wrap n13).toNat].length) * 1 ≤ 140737488355328)) (Lq (l0 ++ [UInt8.ofNat (IntKind.u8.wrap (shrI IntKind.i64 n14 24)).toNat, UInt8.ofNat (IntKind.u8.wrap (shrI IntKind.i64 n13 16)).toNat, UInt8.ofNat (IntKind.u8.wrap (shrI IntKind.i64 n14 8)).toNat, UInt8.ofNat (IntKind.u8.wrap n13).toNat]) (IntKind.i64.wrap (n7 + 1))) none) (br (decide (n7 = 2)) (br (decide ((l0.length + [UInt8.ofNat (IntKind.u8.wrap (shrI IntKind.i64 n14 24)).toNat, UInt8.ofNat (IntKind.u8.wrap (shrI IntKind.i64 n13 16)).toNat, UInt8.ofNat (IntKind.u8.wrap (shrI IntKind.i64 n14 8)).toNat, UInt8.ofNat (IntKind.u8.wrap n14).toNat].length) * 1 ≤ 140737488355328)) (Lq (l0 ++ [UInt8.ofNat (IntKind.u8.wrap (shrI IntKind.i64 n14 24)).toNat, UInt8.ofNat (IntKind.u8.wrap (shrI IntKind.i64 n13 16)).toNat, UInt8.ofNat (IntKind.u8.wrap (shrI IntKind.i64 n14 8)).toNat, UInt8.ofNat (IntKind.u8.wrap n14).toNat]) (IntKind.i64.wrap (n7 + 1))) none) none))) none))) (br (decide (n7 = 2)) (br (decide (n7 = 0)) (br (decide (n7 = 0)) (br (decide ((l0.length + [UInt8.ofNat (IntKind.u8.wrap (shrI IntKind.i64 n14 24)).toNat, UInt8.ofNat (IntKind.u8.wrap (shrI IntKind.i64 n14 16)).toNat, UInt8.ofNat (IntKind.u8.wrap (shrI IntKind.i64 n12 8)).toNat, UInt8.ofNat (IntKind.u8.wrap n12).toNat].length) * 1 ≤ 140737488355328)) (Lq (l0 ++ [UInt8.ofNat (IntKind.u8.wrap (shrI IntKind.i64 n14 24)).toNat, UInt8.ofNat (IntKind.u8.wrap (shrI IntKind.i64 n14 16)).toNat, UInt8.ofNat (IntKind.u8.wrap (shrI IntKind.i64 n12 8)).toNat, UInt8.ofNat (IntKind.u8.wrap n12).toNat]) (IntKind.i64.wrap (n7 + 1))) none) (br (decide (n7 = 1)) (br (decide ((l0.length + [UInt8.ofNat (IntKind.u8.wrap (shrI IntKind.i64 n14 24)).toNat, UInt8.ofNat (IntKind.u8.wrap (shrI IntKind.i64 n14 16)).toNat, UInt8.ofNat (IntKind.u8.wrap (shrI IntKind.i64 n12 8)).toNat, UInt8.ofNat (IntKind.u8.wrap n13).toNat].length) * 1 ≤ 140737488355328)) (Lq (l0 ++ [UInt8.ofNat (IntKind.u8.wrap (shrI IntKind.i64 n14 24)).toNat, UInt8.ofNat (IntKind.u8.wrap (shrI IntKind.i64 n14 16)).toNat, UInt8.ofNat (IntKind.u8.wrap (shrI IntKind.i64 n12 8)).toNat, UInt8.ofNat (IntKind.u8.wrap n13).toNat]) (IntKind.i64.wrap (n7 + 1))) none) (br (decide (n7 = 2)) (br (decide ((l0.length + [UInt8.ofNat (IntKind.u8.wrap (shrI IntKind.i64 n14 24)).toNat, UInt8.ofNat (IntKind.u8.wrap (shrI IntKind.i64 n14 16)).toNat, UInt8.ofNat (IntKind.u8.wrap (shrI IntKind.i64 n12 8)).toNat, UInt8.ofNat (IntKind.u8.wrap n14).toNat].length) * 1 ≤ 140737488355328)) (Lq (l0 ++ [UInt8.ofNat (IntKind.u8.wrap (shrI IntKind.i64 n14 24)).toNat, UInt8.ofNat (IntKind.u8.wrap (shrI IntKind.i64 n14 16)).toNat, UInt8.ofNat (IntKind.u8.wrap (shrI IntKind.i64 n12 8)).toNat, UInt8.ofNat (IntKind.u8.wrap n14).toNat]) (IntKind.i64.wrap (n7 + 1))) none) none))) (br (decide (n7 = 1)) (br (decide (n7 = 0)) (br (decide ((l0.length + [UInt8.ofNat (IntKind.u8.wrap (shrI IntKind.i64 n14 24)).toNat, UInt8.ofNat (IntKind.u8.wrap (shrI IntKind.i64 n14 16)).toNat, UInt8.ofNat (IntKind.u8.wrap (shrI IntKind.i64 n13 8)).toNat, UInt8.ofNat (IntKind.u8.wrap n12).toNat].length) * 1 ≤ 140737488355328)) (Lq (l0 ++ [UInt8.ofNat (IntKind.u8.wrap (shrI IntKind.i64 n14 24)).toNat, UInt8.ofNat (IntKind.u8.wrap (shrI IntKind.i64 n14 16)).toNat, UInt8.ofNat (IntKind.u8.wrap (shrI IntKind.i64 n13 8)).toNat, UInt8.ofNat (IntKind.u8.wrap n12).toNat]) (IntKind.i64.wrap (n7 + 1))) none) (br (decide (n7 = 1)) (br (decide ((l0.length + [UInt8.ofNat (IntKind.u8.wrap (shrI IntKind.i64 n14 24)).toNat, UInt8.ofNat (IntKind.u8.wrap (shrI IntKind.i64 n14 16)).toNat, UInt8.ofNat (IntKind.u8.wrap (shrI IntKind.i64 n13 8)).toNat, UInt8.ofNat (IntKind.u8.wrap n13).toNat].length) * 1 ≤ 140737488355328)) (Lq (l0 ++ [UInt8.ofNat (IntKind.u8.wrap (shrI IntKind.i64 n14 24)).toNat, UInt8.ofNat (IntKind.u8.wrap (shrI IntKind.i64 n14 16)).toNat, UInt8.ofNat (IntKind.u8.wrap (shrI IntKind.i64 n13 8)).toNat, UInt8.ofNat (IntKind.u8.wrap n13).toNat]) (IntKind.i64.wrap (n7 + 1))) none) (br (decide (n7 = 2)) (br (decide ((l0.length + [UInt8.ofNat (IntKind.u8.wrap (shrI IntKind.i64 n14 24)).toNat, UInt8.ofNat (IntKind.u8.wrap (shrI IntKind.i64 n14 16)).toNat, UInt8.ofNat (IntKind.u8.wrap (shrI IntKind.i64 n13 8)).toNat, UInt8.ofNat (IntKind.u8.wrap n14).toNat].length) * 1 ≤ 140737488355328)) (Lq (l0 ++ [UInt8.ofNat (IntKind.u8.wrap (shrI IntKind.i64 n14 24)).toNat, UInt8.ofNat (IntKind.u8.wrap (shrI IntKind.i64 n14 16)).toNat, UInt8.ofNat (IntKind.u8.wrap (shrI IntKind.i64 n13 8)).toNat, UInt8.ofNat (IntKind.u8.wrap n14).toNat]) (IntKind.i64.wrap (n7 + 1))) none) none))) (br (decide (n7 = 2)) (br (decide (n7 = 0)) (br (decide ((l0.length + [UInt8.ofNat (IntKind.u8.wrap (shrI IntKind.i64 n14 24)).toNat, UInt8.ofNat (IntKind.u8.wrap (shrI IntKind.i64 n14 16)).toNat, UInt8.ofNat (IntKind.u8.wrap (shrI IntKind.i64 n14 8)).toNat, UInt8.ofNat (IntKind.u8.wrap n12).toNat].length) * 1 ≤ 140737488355328)) (Lq (l0 ++ [UInt8.ofNat (IntKind.u8.wrap (shrI IntKind.i64 n14 24)).toNat, UInt8.ofNat (IntKind.u8.wrap (shrI IntKind.i64 n14 16)).toNat, UInt8.ofNat (IntKind.u8.wrap (shrI IntKind.i64 n14 8)).toNat, UInt8.ofNat (IntKind.u8.wrap n12).toNat]) (IntKind.i64.wrap (n7 + 1))) none) (br (decide (n7 = 1)) (br (decide ((l0.length + [UInt8.ofNat (IntKind.u8.wrap (shrI IntKind.i64 n14 24)).toNat, UInt8.ofNat (IntKind.u8.wrap (shrI IntKind.i64 n14 16)).toNat, UInt8.ofNat (IntKind.u8.wrap (shrI IntKind.i64 n14 8)).toNat, UInt8.ofNat (IntKind.u8.wrap n13).toNat].length) * 1 ≤ 140737488355328)) (Lq (l0 ++ [UInt8.ofNat (IntKind.u8.wrap (shrI IntKind.i64 n14 24)).toNat, UInt8.ofNat (IntKind.u8.wrap (shrI IntKind.i64 n14 16)).toNat, UInt8.ofNat (IntKind.u8.wrap (shrI IntKind.i64 n14 8)).toNat, UInt8.ofNat (IntKind.u8.wrap n13).toNat]) (IntKind.i64.wrap (n7 + 1))) none) (br (decide (n7 = 2)) (br (decide ((l0.length + [UInt8.ofNat (IntKind.u8.wrap (shrI IntKind.i64 n14 24)).toNat, UInt8.ofNat (IntKind.u8.wrap (shrI IntKind.i64 n14 16)).toNat, UInt8.ofNat (IntKind.u8.wrap (shrI IntKind.i64 n14 8)).toNat, UInt8.ofNat (IntKind.u8.wrap n14).toNat].length) * 1 ≤ 140737488355328)) (Lq (l0 ++ [UInt8.ofNat (IntKind.u8.wrap (shrI IntKind.i64 n14 24)).toNat, UInt8.ofNat (IntKind.u8.wrap (shrI IntKind.i64 n14 16)).toNat, UInt8.ofNat (IntKind.u8.wrap (shrI IntKind.i64 n14 8)).toNat, UInt8.ofNat (IntKind.u8.wrap n14).toNat]) (IntKind.i64.wrap (n7 + 1))) none) none))) none))) none))) none))) (br (decide (n7 = 0)) (br (decide ((l0.length + [UInt8.ofNat (IntKind.u8.wrap n12).toNat].length) * 1 ≤ 140737488355328)) (Lq (l0 ++ [UInt8.ofNat (IntKind.u8.wrap n12).toNat]) (IntKind.i64.wrap (n7 + 1))) none) (br (decide (n7 = 1)) (br (decide ((l0.length + [UInt8.ofNat (IntKind.u8.wrap n13).toNat].length) * 1 ≤ 140737488355328)) (Lq (l0 ++ [UInt8.ofNat (IntKind.u8.wrap n13).toNat]) (IntKind.i64.wrap (n7 + 1))) none) (br (decide (n7 = 2)) (br (decide ((l0.length + [UInt8.ofNat (IntKind.u8.wrap n14).toNat].length) * 1 ≤ 140737488355328)) (Lq (l0 ++ [UInt8.ofNat (IntKind.u8.wrap n14).toNat]) (IntKind.i64.wrap (n7 + 1))) none) none))))) (br (decide (n7 = 1)) (br (decide (n5 = 0)) (Lq l0 (IntKind.i64.wrap (n7 + 1))) (br (decide (n5 = 1)) (br (decide (n7 = 0)) (br (decide (n7 = 0)) (br (decide (n7 = 0)) (br (decide (n7 = 0)) (br (decide ((l0.length + [UInt8.ofNat (IntKind.u8.wrap (shrI IntKind.i64 n12 24)).toNat, UInt8.ofNat (IntKind.u8.wrap (shrI IntKind.i64 n12 16)).toNat, UInt8.ofNat (IntKind.u8.wrap (shrI IntKind.i64 n12 8)).toNat, UInt8.ofNat (IntKind.u8.wrap n12).toNat].length) * 1 ≤ 140737488355328)) (Lq (l0 ++ [UInt8.ofNat (IntKind.u8.wrap (shrI IntKind.i64 n12 24)).toNat, UInt8.ofNat (IntKind.u8.wrap (shrI IntKind.i64 n12 16)).toNat, UInt8.ofNat (IntKind.u8.wrap (shrI IntKind.i64 n12 8)).toNat, UInt8.ofNat (IntKind.u8.wrap n12).toNat]) (IntKind.i64.wrap (n7 + 1))) none) (br (decide (n7 = 1)) (br (decide ((l0.length + [UInt8.ofNat (IntKind.u8.wrap (shrI IntKind.i64 n12 24)).toNat, UInt8.ofNat (IntKind.u8.wrap (shrI IntKind.i64 n12 16)).toNat, UInt8.ofNat (IntKind.u8.wrap (shrI IntKind.i64 n12 8)).toNat, UInt8.ofNat (IntKind.u8.wrap n13).toNat].length) * 1 ≤ 140737488355328)) (Lq (l0 ++ [UInt8.ofNat (IntKind.u8.wrap (shrI IntKind.i64 n12 24)).toNat, UInt8.ofNat (IntKind.u8.wrap (shrI IntKind.i64 n12 16)).toNat, UInt8.ofNat (IntKind.u8.wrap (shrI IntKind.i64 n12 8)).toNat, UInt8.ofNat (IntKind.u8.wrap n13).toNat]) (IntKind.i64.wrap (n7 + 1))) none) (br (decide (n7 = 2)) (br (decide ((l0.length + [UInt8.ofNat (IntKind.u8.wrap (shrI IntKind.i64 n12 24)).toNat, UInt8.ofNat (IntKind.u8.wrap (shrI IntKind.i64 n12 16)).toNat, UInt8.ofNat (IntKind.u8.wrap (shrI IntKind.i64 n12 8)).toNat, UInt8.ofNat (IntKind.u8.wrap n14).toNat].length) * 1 ≤ 140737488355328)) (Lq (l0 ++ [UInt8.ofNat (IntKind.u8.wrap (shrI IntKind.i64 n12 24)).toNat, UInt8.ofNat (IntKind.u8.wrap (shrI IntKind.i64 n12 16)).toNat, UInt8.ofNat (IntKind.u8.wrap (shrI IntKind.i64 n12 8)).toNat, UInt8.ofNat (IntKind.u8.wrap n14).toNat]) (IntKind.i64.wrap (n7 + 1))) none) none))) (br (decide (n7 = 1)) (br (decide (n7 = 0)) (br (decide ((l0.length + [UInt8.ofNat (IntKind.u8.wrap (shrI IntKind.i64 n12 24)).toNat, UInt8.ofNat (IntKind.u8.wrap (shrI IntKind.i64 n12 16)).toNat, UInt8.ofNat (IntKind.u8.wrap (shrI IntKind.i64 n13 8)).toNat, UInt8.ofNat (IntKind.u8.wrap n12).toNat].length) * 1 ≤ 140737488355328)) (Lq (l0 ++ [UInt8.ofNat (IntKind.u8.wrap (shrI IntKind.i64 n12 24)).toNat, UInt8.ofNat (IntKind.u8.wrap (shrI IntKind.i64 n12 16)).toNat, UInt8.ofNat (IntKind.u8.wrap (shrI IntKind.i64 n13 8)).toNat, UInt8.ofNat (IntKind.u8.wrap n12).toNat]) (IntKind.i64.wrap (n7 + 1))) none) (br (decide (n7 = 1)) (br (decide ((l0.length + [UInt8.ofNat (IntKind.u8.wrap (shrI IntKind.i64 n12 24)).toNat, UInt8.ofNat (IntKind.u8.wrap (shrI IntKind.i64 n12 16)).toNat, UInt8.ofNat (IntKind.u8.wrap (shrI IntKind.i64 n13 8)).toNat, UInt8.ofNat (IntKind.u8.wrap n13).toNat].length) * 1 ≤ 140737488355328)) (Lq (l0 ++ [UInt8.ofNat (IntKind.u8.wrap (shrI IntKind.i64 n12 24)).toNat, UInt8.ofNat (IntKind.u8.wrap (shrI IntKind.i64 n12 16)).toNat, UInt8.ofNat (IntKind.u8.wrap (shrI IntKind.i64 n13 8)).toNat, UInt8.ofNat (IntKind.u8.wrap n13).toNat]) (IntKind.i64.wrap (n7 + 1))) none) (br (decide (n7 = 2)) (br (decide ((l0.length + [UInt8.ofNat (IntKind.u8.wrap (shrI IntKind.i64 n12 24)).toNat, UInt8.ofNat (IntKind.u8.wrap (shrI IntKind.i64 n12 16)).toNat, UInt8.ofNat (IntKind.u8.wrap (shrI IntKind.i64 n13 8)).toNat, UInt8.ofNat (IntKind.u8.wrap n14).toNat].length) * 1 ≤ 140737488355328)) (Lq (l0 ++ [UInt8.ofNat (IntKind.u8.wrap (shrI IntKind.i64 n12 24)).toNat, UInt8.ofNat (IntKind.u8.wrap (shrI IntKind.i64 n12 16)).toNat, UInt8.ofNat (IntKind.u8.wrap (shrI IntKind.i64 n13 8)).toNat, UInt8.ofNat (IntKind.u8.wrap n14).toNat]) (IntKind.i64.wrap (n7 + 1))) none) none))) (br (decide (n7 = 2)) (br (decide (n7 = 0)) (br (decide ((l0.length + [UInt8.ofNat (IntKind.u8.wrap (shrI IntKind.i64 n12 24)).toNat, UInt8.ofNat (IntKind.u8.wrap (shrI IntKind.i64 n12 16)).toNat, UInt8.ofNat (IntKind.u8.wrap (shrI IntKind.i64 n14 8)).toNat, UInt8.ofNat (IntKind.u8.wrap n12).toNat].length) * 1 ≤ 140737488355328)) (Lq (l0 ++ [UInt8.ofNat (IntKind.u8.wrap (shrI IntKind.i64 n12 24)).toNat, UInt8.ofNat (IntKind.u8.wrap (shrI IntKind.i64 n12 16)).toNat, UInt8.ofNat (IntKind.u8.wrap (shrI IntKind.i64 n14 8)).toNat, UInt8.ofNat (IntKind.u8.wrap n12).toNat]) (IntKind.i64.wrap (n7 + 1))) none) (br (decide (n7 = 1)) (br (decide ((l0.length + [UInt8.ofNat (IntKind.u8.wrap (shrI IntKind.i64 n12 24)).toNat, UInt8.ofNat (IntKind.u8.wrap (shrI IntKind.i64 n12 16)).toNat, UInt8.ofNat (IntKind.u8.wrap (shrI IntKind.i64 n14 8)).toNat, UInt8.ofNat (IntKind.u8.wrap n13).toNat].length) * 1 ≤ 140737488355328)) (Lq (l0 ++ [UInt8.ofNat (IntKind.u8.wrap (shrI IntKind.i64 n12 24)).toNat, UInt8.ofNat (IntKind.u8.wrap (shrI IntKind.i64 n12 16)).toNat, UInt8.ofNat (IntKind.u8.wrap (shrI IntKind.i64 n14 8)).toNat, UInt8.ofNat (IntKind.u8.wrap n13).toNat]) (IntKind.i64.wrap (n7 + 1))) none) (br (decide (n7 = 2)) (br (decide ((l0.length + [UInt8.ofNat (IntKind.u8.wrap (shrI IntKind.i64 n12 24)).toNat, UInt8.ofNat (IntKind.u8.wrap (shrI IntKind.i64 n12 16)).toNat, UInt8.ofNat (IntKind.u8.wrap (shrI IntKind.i64 n14 8)).toNat, UInt8.ofNat (IntKind.u8.wrap n14).toNat].length) * 1 ≤ 140737488355328)) (Lq (l0 ++ [UInt8.ofNat (IntKind.u8.wrap (shrI IntKind.i64 n12 24)).toNat, UInt8.ofNat (IntKind.u8.wrap (shrI IntKind.i64 n12 16)).toNat, UInt8.ofNat (IntKind.u8.wrap (shrI IntKind.i64 n14 8)).toNat, UInt8.ofNat (IntKind.u8.wrap n14).toNat]) (IntKind.i64.wrap (n7 + 1))) none) none))) none))) (br (decide (n7 = 1)) (br (decide (n7 = 0)) (br (decide (n7 = 0)) (br (decide ((l0.length + [UInt8.ofNat (IntKind.u8.wrap (shrI IntKind.i64 n12 24)).toNat, UInt8.ofNat (IntKind.u8.wrap (shrI IntKind.i64 n13 16)).toNat, UInt8.ofNat (IntKind.u8.wrap (shrI IntKind.i64 n12 8)).toNat, UInt8.ofNat (IntKind.u8.wrap n12).toNat].length) * 1 ≤ 140737488355328)) (Lq (l0 ++ [UInt8.ofNat (IntKind.u8.wrap (shrI IntKind.i64 n12 24)).toNat, UInt8.ofNat (IntKind.u8.wrap (shrI IntKind.i64 n13 16)).toNat, UInt8.ofNat (IntKind.u8.wrap (shrI IntKind.i64 n12 8)).toNat, UInt8.ofNat (IntKind.u8.wrap n12).toNat]) (IntKind.i64.wrap (n7 + 1))) none) (br (decide (n7 = 1)) (br (decide ((l0.length + [UInt8.ofNat (IntKind.u8.wrap (shrI IntKind.i64 n12 24)).toNat, UInt8.ofNat (IntKind.u8.wrap (shrI IntKind.i64 n13 16)).toNat, UInt8.ofNat (IntKind.u8.wrap (shrI IntKind.i64 n12 8)).toNat, UInt8.ofNat (IntKind.u8.wrap n13).toNat].length) * 1 ≤ 140737488355328)) (Lq (l0 ++ [UInt8.ofNat (IntKind.u8.wrap (shrI IntKind.i64 n12 24)).toNat, UInt8.ofNat (IntKind.u8.wrap (shrI IntKind.i64 n13 16)).toNat, UInt8.ofNat (IntKind.u8.wrap (shrI IntKind.i64 n12 8)).toNat, UInt8.ofNat (IntKind.u8.wrap n13).toNat]) (IntKind.i64.wrap (n7 + 1))) none) (br (decide (n7 = 2)) (br (decide ((l0.length + [UInt8.ofNat (IntKind.u8.wrap (shrI IntKind.i64 n12 24)).toNat, UInt8.ofNat (IntKind.u8.wrap (shrI IntKind.i64 n13 16)).toNat, UInt8.ofNat (IntKind.u8.wrap (shrI IntKind.i64 n12 8)).toNat, UInt8.ofNat (IntKind.u8.wrap n14).toNat].length) * 1 ≤ 140737488355328)) (Lq (l0 ++ [UInt8.ofNat (IntKind.u8.wrap (shrI IntKind.i64 n12 24)).toNat, UInt8.ofNat (IntKind.u8.wrap (shrI IntKind.i64 n13 16)).toNat, UInt8.ofNat (IntKind.u8.wrap (shrI IntKind.i64 n12 8)).toNat, UInt8.ofNat (IntKind.u8.wrap n14).toNat]) (IntKind.i64.wrap (n7 + 1))) none) none))) (br (decide (n7 = 1)) (br (decide (n7 = 0)) (br (decide ((l0.length + [UInt8.ofNat (IntKind.u8.wrap (shrI IntKind.i64 n12 24)).toNat, UInt8.ofNat (IntKind.u8.wrap (shrI IntKind.i64 n13 16)).toNat, UInt8.ofNat (IntKind.u8.wrap (shrI IntKind.i64 n13 8)).toNat, UInt8.ofNat (IntKind.u8.wrap n12).toNat].length) * 1 ≤ 140737488355328)) (Lq (l0 ++ [UInt8.ofNat (IntKind.u8.wrap (shrI IntKind.i64 n12 24)).toNat, UInt8.ofNat (IntKind.u8.wrap (shrI IntKind.i64 n13 16)).toNat, UInt8.ofNat (IntKind.u8.wrap (shrI IntKind.i64 n13 8)).toNat, UInt8.ofNat (IntKind.u8.wrap n12).toNat]) (IntKind.i64.wrap (n7 + 1))) none) (br (decide (n7 = 1)) (br (decide ((l0.length + [UInt8.ofNat (IntKind.u8.wrap (shrI IntKind.i64 n12 24)).toNat, UInt8.ofNat (IntKind.u8.wrap (shrI IntKind.i64 n13 16)).toNat, UInt8.ofNat (IntKind.u8.wrap (shrI IntKind.i64 n13 8)).toNat, UInt8.ofNat (IntKind.u8.wrap n13).toNat].length) * 1 ≤ 140737488355328)) (Lq (l0 ++ [UInt8.ofNat (IntKind.u8.wrap (shrI IntKind.i64 n12 24)).toNat, UInt8.ofNat (IntKind.u8.wrap (shrI IntKind.i64 n13 16)).toNat, UInt8.ofNat (IntKind.u8.wrap (shrI IntKind.i64 n13 8)).toNat, UInt8.ofNat (IntKind.u8.wrap n13).toNat]) (IntKind.i64.wrap (n7 + 1))) none) (br (decide (n7 = 2)) (br (decide ((l0.length + [UInt8.ofNat (IntKind.u8.wrap (shrI IntKind.i64 n12 24)).toNat, UInt8.ofNat (IntKind.u8.wrap (shrI IntKind.i64 n13 16)).toNat, UInt8.ofNat (IntKind.u8.wrap (shrI IntKind.i64 n13 8)).toNat, UInt8.ofNat (IntKind.u8.wrap n14).toNat].length) * 1 ≤ 140737488355328)) (Lq (l0 ++ [UInt8.ofNat (IntKind.u8.wrap (shrI IntKind.i64 n12 24)).toNat, UInt8.ofNat (IntKind.u8.wrap (shrI IntKind.i64 n13 16)).toNat, UInt8.ofNat (IntKind.u8.wrap (shrI IntKind.i64 n13 8)).toNat, UInt8.ofNat (IntKind.u8.wrap n14).toNat]) (IntKind.i64.wrap (n7 + 1))) none) none))) (br (decide (n7 = 2)) (br (decide (n7 = 0)) (br (decide ((l0.length + [UInt8.ofNat (IntKind.u8.wrap (shrI IntKind.i64 n12 24)).toNat, UInt8.ofNat (IntKind.u8.wrap (shrI IntKind.i64 n13 16)).toNat, UInt8.ofNat (IntKind.u8.wrap (shrI IntKind.i64 n14 8)).toNat, UInt8.ofNat (IntKind.u8.wrap n12).toNat].length) * 1 ≤ 140737488355328)) (Lq (l0 ++ [UInt8.ofNat (IntKind.u8.wrap (shrI IntKind.i64 n12 24)).toNat, UInt8.ofNat (IntKind.u8.wrap (shrI IntKind.i64 n13 16)).toNat, UInt8.ofNat (IntKind.u8.wrap (shrI IntKind.i64 n14 8)).toNat, UInt8.ofNat (IntKind.u8.wrap n12).toNat]) (IntKind.i64.wrap (n7 + 1))) none) (br (decide (n7 = 1)) (br (decide ((l0.length + [UInt8.ofNat (IntKind.u8.wrap (shrI IntKind.i64 n12 24)).toNat, UInt8.ofNat (IntKind.u8.wrap (shrI IntKind.i64 n13 16)).toNat, UInt8.ofNat (IntKind.u8.wrap (shrI IntKind.i64 n14 8)).toNat, UInt8.ofNat (IntKind.u8.wrap n13).toNat].length) * 1 ≤ 140737488355328)) (Lq (l0 ++ [UInt8.ofNat (IntKind.u8.wrap (shrI IntKind.i64 n12 24)).toNat, UInt8.ofNat (IntKind.u8.wrap (shrI IntKind.i64 n13 16)).toNat, UInt8.ofNat (IntKind.u8.wrap (shrI IntKind.i64 n14 8)).toNat, UInt8.ofNat (IntKind.u8.wrap n13).toNat]) (IntKind.i64.wrap (n7 + 1))) none) (br (decide (n7 = 2)) (br (decide ((l0.length + [UInt8.ofNat (IntKind.u8.wrap (shrI IntKind.i64 n12 24)).toNat, UInt8.ofNat (IntKind.u8.wrap (shrI IntKind.i64 n13 16)).toNat, UInt8.ofNat (IntKind.u8.wrap (shrI IntKind.i64 n14 8)).toNat, UInt8.ofNat (IntKind.u8.wrap n14).toNat].length) * 1 ≤ 140737488355328)) (Lq (l0 ++ [UInt8.ofNat (IntKind.u8.wrap (shrI IntKind.i64 n12 24)).toNat, UInt8.ofNat (IntKind.u8.wrap (shrI IntKind.i64 n13 16)).toNat, UInt8.ofNat (IntKind.u8.wrap (shrI IntKind.i64 n14 8)).toNat, UInt8.ofNat (IntKind.u8.wrap n14).toNat]) (IntKind.i64.wrap (n7 + 1))) none) none))) none))) (br (decide (n7 = 2)) (br (decide (n7 = 0)) (br (decide (n7 = 0)) (br (decide ((l0.length + [UInt8.ofNat (IntKind.u8.wrap (shrI IntKind.i64 n12 24)).toNat, UInt8.ofNat (IntKind.u8.wrap (shrI IntKind.i64 n14 16)).toNat, UInt8.ofNat (IntKind.u8.wrap (shrI IntKind.i64 n12 8)).toNat, UInt8.ofNat (IntKind.u8.wrap n12).toNat].length) * 1 ≤ 140737488355328)) (Lq (l0 ++ [UInt8.ofNat (IntKind.u8.wrap (shrI IntKind.i64 n12 24)).toNat, UInt8.ofNat (IntKind.u8.wrap (shrI IntKind.i64 n14 16)).toNat, UInt8.ofNat (IntKind.u8.wrap (shrI IntKind.i64 n12 8)).toNat, UInt8.ofNat (IntKind.u8.wrap n12).toNat]) (IntKind.i64.wrap (n7 + 1))) none) (br (decide (n7 = 1)) (br (decide ((l0.length + [UInt8.ofNat (IntKind.u8.wrap (shrI IntKind.i64 n12 24)).toNat, UInt8.ofNat (IntKind.u8.wrap (shrI IntKind.i64 n14 16)).toNat, UInt8.ofNat (IntKind.u8.wrap (shrI IntKind.i64 n12 8)).toNat, UInt8.ofNat (IntKind.u8.wrap n13).toNat].length) * 1 ≤ 140737488355328)) (Lq (l0 ++ [UInt8.ofNat (IntKind.u8.wrap (shrI IntKind.i64 n12 24)).toNat, UInt8.ofNat (IntKind.u8.wrap (shrI IntKind.i64 n14 16)).toNat, UInt8.ofNat (IntKind.u8.wrap (shrI IntKind.i64 n12 8)).toNat, UInt8.ofNat (IntKind.u8.wrap n13).toNat]) (IntKind.i64.wrap (n7 + 1))) none) (br (decide (n7 = 2)) (br (decide ((l0.length + [UInt8.ofNat (IntKind.u8.wrap (shrI IntKind.i64 n12 24)).toNat, UInt8.ofNat (IntKind.u8.wrap (shrI IntKind.i64 n14 16)).toNat, UInt8.ofNat (IntKind.u8.wrap (shrI IntKind.i64 n12 8)).toNat, UInt8.ofNat (IntKind.u8.wrap n14).toNat].length) * 1 ≤ 140737488355328)) (Lq (l0 ++ [UInt8.ofNat (IntKind.u8.wrap (shrI IntKind.i64 n12 24)).toNat, UInt8.ofNat (IntKind.u8.wrap (shrI IntKind.i64 n14 16)).toNat, UInt8.ofNat (IntKind.u8.wrap (shrI IntKind.i64 n12 8)).toNat, UInt8.ofNat (IntKind.u8.wrap n14).toNat]) (IntKind.i64.wrap (n7 + 1))) none) none))) (br (decide (n7 = 1)) (br (decide (n7 = 0)) (br (decide ((l0.length + [UInt8.ofNat (IntKind.u8.wrap (shrI IntKind.i64 n12 24)).toNat, UInt8.ofNat (IntKind.u8.wrap (shrI IntKind.i64 n14 16)).toNat, UInt8.ofNat (IntKind.u8.wrap (shrI IntKind.i64 n13 8)).toNat, UInt8.ofNat (IntKind.u8.wrap n12).toNat].length) * 1 ≤ 140737488355328)) (Lq (l0 ++ [UInt8.ofNat (IntKind.u8.wrap (shrI IntKind.i64 n12 24)).toNat, UInt8.ofNat (IntKind.u8.wrap (shrI IntKind.i64 n14 16)).toNat, UInt8.ofNat (IntKind.u8.wrap (shrI IntKind.i64 n13 8)).toNat, UInt8.ofNat (IntKind.u8.wrap n12).toNat]) (IntKind.i64.wrap (n7 + 1))) none) (br (decide (n7 = 1)) (br (decide ((l0.length + [UInt8.ofNat (IntKind.u8.wrap (shrI IntKind.i64 n12 24)).toNat, UInt8.ofNat (IntKind.u8.wrap (shrI IntKind.i64 n14 16)).toNat, UInt8.ofNat (IntKind.u8.wrap (shrI IntKind.i64 n13 8)).toNat, UInt8.ofNat (IntKind.u8.wrap n13).toNat].length) * 1 ≤ 140737488355328)) (Lq (l0 ++ [UInt8.ofNat (IntKind.u8.wrap (shrI IntKind.i64 n12 24)).toNat, UInt8.ofNat (IntKind.u8.wrap (shrI IntKind.i64 n14 16)).toNat, UInt8.ofNat (IntKind.u8.wrap (shrI IntKind.i64 n13 8)).toNat, UInt8.ofNat (IntKind.u8.wrap n13).toNat]) (IntKind.i64.wrap (n7 + 1))) none) (br (decide (n7 = 2)) (br (decide ((l0.length + [UInt8.ofNat (IntKind.u8.wrap (shrI IntKind.i64 n12 24)).toNat, UInt8.ofNat (IntKind.u8.wrap (shrI IntKind.i64 n14 16)).toNat, UInt8.ofNat (IntKind.u8.wrap (shrI IntKind.i64 n13 8)).toNat, UInt8.ofNat (IntKind.u8.wrap n14).toNat].length) * 1 ≤ 140737488355328)) (Lq (l0 ++ [UInt8.ofNat (IntKind.u8.wrap (shrI IntKind.i64 n12 24)).toNat, UInt8.ofNat (IntKind.u8.wrap (shrI IntKind.i64 n14 16)).toNat, UInt8.ofNat (IntKind.u8.wrap (shrI IntKind.i64 n13 8)).toNat, UInt8.ofNat (IntKind.u8.wrap n14).toNat]) (IntKind.i64.wrap (n7 + 1))) none) none))) (br (decide (n7 = 2)) (br (decide (n7 = 0)) (br (decide ((l0.length + [UInt8.ofNat (IntKind.u8.wrap (shrI IntKind.i64 n12 24)).toNat, UInt8.ofNat (IntKind.u8.wrap (shrI IntKind.i64 n14 16)).toNat, UInt8.ofNat (IntKind.u8.wrap (shrI IntKind.i64 n14 8)).toNat, UInt8.ofNat (IntKind.u8.wrap n12).toNat].length) * 1 ≤ 140737488355328)) (Lq (l0 ++ [UInt8.ofNat (IntKind.u8.wrap (shrI IntKind.i64 n12 24)).toNat, UInt8.ofNat (IntKind.u8.wrap (shrI IntKind.i64 n14 16)).toNat, UInt8.ofNat (IntKind.u8.wrap (shrI IntKind.i64 n14 8)).toNat, UInt8.ofNat (IntKind.u8.wrap n12).toNat]) (IntKind.i64.wrap (n7 + 1))) none) (br (decide (n7 = 1)) (br (decide ((l0.length + [UInt8.ofNat (IntKind.u8.wrap (shrI IntKind.i64 n12 24)).toNat, UInt8.ofNat (IntKind.u8.wrap (shrI IntKind.i64 n14 16)).toNat, UInt8.ofNat (IntKind.u8.wrap (shrI IntKind.i64 n14 8)).toNat, UInt8.ofNat (IntKind.u8.wrap n13).toNat].length) * 1 ≤ 140737488355328)) (Lq (l0 ++ [UInt8.ofNat (IntKind.u8.wrap (shrI IntKind.i64 n12 24)).toNat, UInt8.ofNat (IntKind.u8.wrap (shrI IntKind.i64 n14 16)).toNat, UInt8.ofNat (IntKind.u8.wrap (shrI IntKind.i64 n14 8)).toNat, UInt8.ofNat (IntKind.u8.wrap n13).toNat]) (IntKind.i64.wrap (n7 + 1))) none) (br (decide (n7 = 2)) (br (decide ((l0.length + [UInt8.ofNat (IntKind.u8.wrap (shrI IntKind.i64 n12 24)).toNat, UInt8.ofNat (IntKind.u8.wrap (shrI IntKind.i64 n14 16)).toNat, UInt8.ofNat (IntKind.u8.wrap (shrI IntKind.i64 n14 8)).toNat, UInt8.ofNat (IntKind.u8.wrap n14).toNat].length) * 1 ≤ 140737488355328)) (Lq (l0 ++ [UInt8.ofNat (IntKind.u8.wrap (shrI IntKind.i64 n12 24)).toNat, UInt8.ofNat (IntKind.u8.wrap (shrI IntKind.i64 n14 16)).toNat, UInt8.ofNat (IntKind.u8.wrap (shrI IntKind.i64 n14 8)).toNat, UInt8.ofNat (IntKind.u8.wrap n14).toNat]) (IntKind.i64.wrap (n7 + 1))) none) none))) none))) none))) (br (decide (n7 = 1)) (br (decide (n7 = 0)) (br (decide (n7 = 0)) (br (decide (n7 = 0)) (br (decide ((l0.length + [UInt8.ofNat (IntKind.u8.wrap (shrI IntKind.i64 n13 24)).toNat, UInt8.ofNat (IntKind.u8.wrap (shrI IntKind.i64 n12 16)).toNat, UInt8.ofNat (IntKind.u8.wrap (shrI IntKind.i64 n12 8)).toNat, UInt8.ofNat (IntKind.u8.wrap n12).toNat].length) * 1 ≤ 140737488355328)) (Lq (l0 ++ [UInt8.ofNat (IntKind.u8.wrap (shrI IntKind.i64 n13 24)).toNat, UInt8.ofNat (IntKind.u8.wrap (shrI IntKind.i64 n12 16)).toNat, UInt8.ofNat (IntKind.u8.wrap (shrI IntKind.i64 n12 8)).toNat, UInt8.ofNat (IntKind.u8.wrap n12).toNat]) (IntKind.i64.wrap (n7 + 1))) none) (br (decide (n7 = 1)) (br (decide ((l0.length + [UInt8.ofNat (IntKind.u8.wrap (shrI IntKind.i64 n13 24)).toNat, UInt8.ofNat (IntKind.u8.wrap (shrI IntKind.i64 n12 16)).toNat, UInt8.ofNat (IntKind.u8.wrap (shrI IntKind.i64 n12 8)).toNat, UInt8.ofNat (IntKind.u8.wrap n13).toNat].length) * 1 ≤ 140737488355328)) (Lq (l0 ++ [UInt8.ofNat (IntKind.u8.wrap (shrI IntKind.i64 n13 24)).toNat, UInt8.ofNat (IntKind.u8.wrap (shrI IntKind.i64 n12 16)).toNat, UInt8.ofNat (IntKind.u8.wrap (shrI IntKind.i64 n12 8)).toNat, UInt8.ofNat (IntKind.u8.wrap n13).toNat]) (IntKind.i64.wrap (n7 + 1))) none) (br (decide (n7 = 2)) (br (decide ((l0.length + [UInt8.ofNat (IntKind.u8.wrap (shrI IntKind.i64 n13 24)).toNat, UInt8.ofNat (IntKind.u8.wrap (shrI IntKind.i64 n12 16)).toNat, UInt8.ofNat (IntKind.u8.wrap (shrI IntKind.i64 n12 8)).toNat, UInt8.ofNat (IntKind.u8.wrap n14).toNat].length) * 1 ≤ 140737488355328)) (Lq (l0 ++ [UInt8.ofNat (IntKind.u8.wrap (shrI IntKind.i64 n13 24)).toNat, UInt8.ofNat (IntKind.u8.wrap (shrI IntKind.i64 n12 16)).toNat, UInt8.ofNat (IntKind.u8.wrap (shrI IntKind.i64 n12 8)).toNat, UInt8.ofNat (IntKind.u8.wrap n14).toNat]) (IntKind.i64.wrap (n7 + 1))) none) none))) (br (decide (n7 = 1)) (br (decide (n7 = 0)) (br (decide ((l0.length + [UInt8.ofNat (IntKind.u8.wrap (shrI IntKind.i64 n13 24)).toNat, UInt8.ofNat (IntKind.u8.wrap (shrI IntKind.i64 n12 16)).toNat, UInt8.ofNat (IntKind.u8.wrap (shrI IntKind.i64 n13 8)).toNat, UInt8.ofNat (IntKind.u8.wrap n12).toNat].length) * 1 ≤ 140737488355328)) (Lq (l0 ++ [UInt8.ofNat (IntKind.u8.wrap (shrI IntKind.i64 n13 24)).toNat, UInt8.ofNat (IntKind.u8.wrap (shrI IntKind.i64 n12 16)).toNat, UInt8.ofNat (IntKind.u8.wrap (shrI IntKind.i64 n13 8)).toNat, UInt8.ofNat (IntKind.u8.wrap n12).toNat]) (IntKind.i64.wrap (n7 + 1))) none) (br (decide (n7 = 1)) (br (decide ((l0.length + [UInt8.ofNat (IntKind.u8.wrap (shrI IntKind.i64 n13 24)).toNat, UInt8.ofNat (IntKind.u8.wrap (shrI IntKind.i64 n12 16)).toNat, UInt8.ofNat (IntKind.u8.wrap (shrI IntKind.i64 n13 8)).toNat, UInt8.ofNat (IntKind.u8.wrap n13).toNat].length) * 1 ≤ 140737488355328)) (Lq (l0 ++ [UInt8.ofNat (IntKind.u8.wrap (shrI IntKind.i64 n13 24)).toNat, UInt8.ofNat (IntKind.u8.wrap (shrI IntKind.i64 n12 16)).toNat, UInt8.ofNat (IntKind.u8.wrap (shrI IntKind.i64 n13 8)).toNat, UInt8.ofNat (IntKind.u8.wrap n13).toNat]) (IntKind.i64.wrap (n7 + 1))) none) (br (decide (n7 = 2)) (br (decide ((l0.length + [UInt8.ofNat (IntKind.u8.wrap (shrI IntKind.i64 n13 24)).toNat, UInt8.ofNat (IntKind.u8.wrap (shrI IntKind.i64 n12 16)).toNat, UInt8.ofNat (IntKind.u8.wrap (shrI IntKind.i64 n13 8)).toNat, UInt8.ofNat (IntKind.u8.wrap n14).toNat].length) * 1 ≤ 140737488355328)) (Lq (l0 ++ [UInt8.ofNat (IntKind.u8.wrap (shrI IntKind.i64 n13 24)).toNat, UInt8.ofNat (IntKind.u8.wrap (shrI IntKind.i64 n12 16)).toNat, UInt8.ofNat (IntKind.u8.wrap (shrI IntKind.i64 n13 8)).toNat, UInt8.ofNat (IntKind.u8.wrap n14).toNat]) (IntKind.i64.wrap (n7 + 1))) none) none))) (br (decide (n7 = 2)) (br (decide (n7 = 0)) (br (decide ((l0.length + [UInt8.ofNat (IntKind.u8.wrap (shrI IntKind.i64 n13 24)).toNat, UInt8.ofNat (IntKind.u8.wrap (shrI IntKind.i64 n12 16)).toNat, UInt8.ofNat (IntKind.u8.wrap (shrI IntKind.i64 n14 8)).toNat, UInt8.ofNat (IntKind.u8.wrap n12).toNat].length) * 1 ≤ 140737488355328)) (Lq (l0 ++ [UInt8.ofNat (IntKind.u8.wrap (shrI IntKind.i64 n13 24)).toNat, UInt8.ofNat (IntKind.u8.wrap (shrI IntKind.i64 n12 16)).toNat, UInt8.ofNat (IntKind.u8.wrap (shrI IntKind.i64 n14 8)).toNat, UInt8.ofNat (IntKind.u8.wrap n12).toNat]) (IntKind.i64.wrap (n7 + 1))) none) (br (decide (n7 = 1)) (br (decide ((l0.length + [UInt8.ofNat (IntKind.u8.wrap (shrI IntKind.i64 n13 24)).toNat, UInt8.ofNat (IntKind.u8.wrap (shrI IntKind.i64 n12 16)).toNat, UInt8.ofNat (IntKind.u8.wrap (shrI IntKind.i64 n14 8)).toNat, UInt8.ofNat (IntKind.u8.wrap n13).toNat].length) * 1 ≤ 140737488355328)) (Lq (l0 ++ [UInt8.ofNat (IntKind.u8.wrap (shrI IntKind.i64 n13 24)).toNat, UInt8.ofNat (IntKind.u8.wrap (shrI IntKind.i64 n12 16)).toNat, UInt8.ofNat (IntKind.u8.wrap (shrI IntKind.i64 n14 8)).toNat, UInt8.ofNat (IntKind.u8.wrap n13).toNat]) (IntKind.i64.wrap (n7 + 1))) none) (br (decide (n7 = 2)) (br (decide ((l0.length + [UInt8.ofNat (IntKind.u8.wrap (shrI IntKind.i64 n13 24)).toNat, UInt8.ofNat (IntKind.u8.wrap (shrI IntKind.i64 n12 16)).toNat, UInt8.ofNat (IntKind.u8.wrap (shrI IntKind.i64 n14 8)).toNat, UInt8.ofNat (IntKind.u8.wrap n14).toNat].length) * 1 ≤ 140737488355328)) (Lq (l0 ++ [UInt8.ofNat (IntKind.u8.wrap (shrI IntKind.i64 n13 24)).toNat, UInt8.ofNat (IntKind.u8.wrap (shrI IntKind.i64 n12 16)).toNat, UInt8.ofNat (IntKind.u8.wrap (shrI IntKind.i64 n14 8)).toNat, UInt8.ofNat (IntKind.u8.wrap n14).toNat]) (IntKind.i64.wrap (n7 + 1))) none) none))) none))) (br (decide (n7 = 1)) (br (decide (n7 = 0)) (br (decide (n7 = 0)) (br (decide ((l0.length + [UInt8.ofNat (IntKind.u8.wrap (shrI IntKind.i64 n13 24)).toNat, UInt8.ofNat (IntKind.u8.wrap (shrI IntKind.i64 n13 16)).toNat, UInt8.ofNat (IntKind.u8.wrap (shrI IntKind.i64 n12 8)).toNat, UInt8.ofNat (IntKind.u8.wrap n12).toNat].length) * 1 ≤ 140737488355328)) (Lq (l0 ++ [UInt8.ofNat (IntKind.u8.wrap (shrI IntKind.i64 n13 24)).toNat, UInt8.ofNat (IntKind.u8.wrap (shrI IntKind.i64 n13 16)).toNat, UInt8.ofNat (IntKind.u8.wrap (shrI IntKind.i64 n12 8)).toNat, UInt8.ofNat (IntKind.u8.wrap n12).toNat]) (IntKind.i64.wrap (n7 + 1))) none) (br (decide (n7 = 1)) (br (decide ((l0.length + [UInt8.ofNat (IntKind.u8.wrap (shrI IntKind.i64 n13 24)).toNat, UInt8.ofNat (IntKind.u8.wrap (shrI IntKind.i64 n13 16)).toNat, UInt8.ofNat (IntKind.u8.wrap (shrI IntKind.i64 n12 8)).toNat, UInt8.ofNat (IntKind.u8.wrap n13).toNat].length) * 1 ≤ 140737488355328)) (Lq (l0 ++ [UInt8.ofNat (IntKind.u8.wrap (shrI IntKind.i64 n13 24)).toNat, UInt8.ofNat (IntKind.u8.wrap (shrI IntKind.i64 n13 16)).toNat, UInt8.ofNat (IntKind.u8.wrap (shrI IntKind.i64 n12 8)).toNat, UInt8.ofNat (IntKind.u8.wrap n13).toNat]) (IntKind.i64.wrap (n7 + 1))) none) (br (decide (n7 = 2)) (br (decide ((l0.length + [UInt8.ofNat (IntKind.u8.wrap (shrI IntKind.i64 n13 24)).toNat, UInt8.ofNat (IntKind.u8.wrap (shrI IntKind.i64 n13 16)).toNat, UInt8.ofNat (IntKind.u8.wrap (shrI IntKind.i64 n12 8)).toNat, UInt8.ofNat (IntKind.u8.wrap n14).toNat].length) * 1 ≤ 140737488355328)) (Lq (l0 ++ [UInt8.ofNat (IntKind.u8.wrap (shrI IntKind.i64 n13 24)).toNat, UInt8.ofNat (IntKind.u8.wrap (shrI IntKind.i64 n13 16)).toNat, UInt8.ofNat (IntKind.u8.wrap (shrI IntKind.i64 n12 8)).toNat, UInt8.ofNat (IntKind.u8.wrap n14).toNat]) (IntKind.i64.wrap (n7 + 1))) none) none))) (br (decide (n7 = 1)) (br (decide (n7 = 0)) (br (decide ((l0.length + [UInt8.ofNat (IntKind.u8.wrap (shrI IntKind.i64 n13 24)).toNat, UInt8.ofNat (IntKind.u8.wrap (shrI IntKind.i64 n13 16)).toNat, UInt8.ofNat (IntKind.u8.wrap (shrI IntKind.i64 n13 8)).toNat, UInt8.ofNat (IntKind.u8.wrap n12).toNat].length) * 1 ≤ 140737488355328)) (Lq (l0 ++ [UInt8.ofNat (IntKind.u8.wrap (shrI IntKind.i64 n13 24)).toNat, UInt8.ofNat (IntKind.u8.wrap (shrI IntKind.i64 n13 16)).toNat, UInt8.ofNat (IntKind.u8.wrap (shrI IntKind.i64 n13 8)).toNat, UInt8.ofNat (IntKind.u8.wrap n12).toNat]) (IntKind.i64.wrap (n7 + 1))) none) (br (decide (n7 = 1)) (br (decide ((l0.length + [UInt8.ofNat (IntKind.u8.wrap (shrI IntKind.i64 n13 24)).toNat, UInt8.ofNat (IntKind.u8.wrap (shrI IntKind.i64 n13 16)).toNat, UInt8.ofNat (IntKind.u8.wrap (shrI IntKind.i64 n13 8)).toNat, UInt8.ofNat (IntKind.u8.wrap n13).toNat].length) * 1 ≤ 140737488355328)) (Lq (l0 ++ [UInt8.ofNat (IntKind.u8.wrap (shrI IntKind.i64 n13 24)).toNat, UInt8.ofNat (IntKind.u8.wrap (shrI IntKind.i64 n13 16)).toNat, UInt8.ofNat (IntKind.u8.wrap (shrI IntKind.i64 n13 8)).toNat, UInt8.ofNat (IntKind.u8.wrap n13).toNat]) (IntKind.i64.wrap (n7 + 1))) none) (br (decide (n7 = 2)) (br (decide ((l0.length + [UInt8.ofNat (IntKind.u8.wrap (shrI IntKind.i64 n13 24)).toNat, UInt8.ofNat (IntKind.u8.wrap (shrI IntKind.i64 n13 16)).toNat, UInt8.ofNat (IntKind.u8.wrap (shrI IntKind.i64 n13 8)).toNat, UInt8.ofNat (IntKind.u8.wrap n14).toNat].length) * 1 ≤ 140737488355328)) (Lq (l0 ++ [UInt8.ofNat (IntKind.u8.wrap (shrI IntKind.i64 n13 24)).toNat, UInt8.ofNat (IntKind.u8.wrap (shrI IntKind.i64 n13 16)).toNat, UInt8.ofNat (IntKind.u8.wrap (shrI IntKind.i64 n13 8)).toNat, UInt8.ofNat (IntKind.u8.wrap n14).toNat]) (IntKind.i64.wrap (n7 + 1))) none) none))) (br (decide (n7 = 2)) (br (decide (n7 = 0)) (br (decide ((l0.length + [UInt8.ofNat (IntKind.u8.wrap (shrI IntKind.i64 n13 24)).toNat, UInt8.ofNat (IntKind.u8.wrap (shrI IntKind.i64 n13 16)).toNat, UInt8.ofNat (IntKind.u8.wrap (shrI IntKind.i64 n14 8)).toNat, UInt8.ofNat (IntKind.u8.wrap n12).toNat].length) * 1 ≤ 140737488355328)) (Lq (l0 ++ [UInt8.ofNat (IntKind.u8.wrap (shrI IntKind.i64 n13 24)).toNat, UInt8.ofNat (IntKind.u8.wrap (shrI IntKind.i64 n13 16)).toNat, UInt8.ofNat (IntKind.u8.wrap (shrI IntKind.i64 n14 8)).toNat, UInt8.ofNat (IntKind.u8.wrap n12).toNat]) (IntKind.i64.wrap (n7 + 1))) none) (br (decide (n7 = 1)) (br (decide ((l0.length + [UInt8.ofNat (IntKind.u8.wrap (shrI IntKind.i64 n13 24)).toNat, UInt8.ofNat (IntKind.u8.wrap (shrI IntKind.i64 n13 16)).toNat, UInt8.ofNat (IntKind.u8.wrap (shrI IntKind.i64 n14 8)).toNat, UInt8.ofNat (IntKind.u8.wrap n13).toNat].length) * 1 ≤ 140737488355328)) (Lq (l0 ++ [UInt8.ofNat (IntKind.u8.wrap (shrI IntKind.i64 n13 24)).toNat, UInt8.ofNat (IntKind.u8.wrap (shrI IntKind.i64 n13 16)).toNat, UInt8.ofNat (IntKind.u8.wrap (shrI IntKind.i64 n14 8)).toNat, UInt8.ofNat (IntKind.u8.wrap n13).toNat]) (IntKind.i64.wrap (n7 + 1))) none) (br (decide (n7 = 2)) (br (decide ((l0.length + [UInt8.ofNat (IntKind.u8.wrap (shrI IntKind.i64 n13 24)).toNat, UInt8.ofNat (IntKind.u8.wrap (shrI IntKind.i64 n13 16)).toNat, UInt8.ofNat (IntKind.u8.wrap (shrI IntKind.i64 n14 8)).toNat, UInt8.ofNat (IntKind.u8.wrap n14).toNat].length) * 1 ≤ 140737488355328)) (Lq (l0 ++ [UInt8.ofNat (IntKind.u8.wrap (shrI IntKind.i64 n13 24)).toNat, UInt8.ofNat (IntKind.u8.wrap (shrI IntKind.i64 n13 16)).toNat, UInt8.ofNat (IntKind.u8.wrap (shrI IntKind.i64 n14 8)).toNat, UInt8.ofNat (IntKind.u8.wrap n14).toNat]) (IntKind.i64.wrap (n7 + 1))) none) none))) none))) (br (decide (n7 = 2)) (br (decide (n7 = 0)) (br (decide (n7 = 0)) (br (decide ((l0.length + [UInt8.ofNat (IntKind.u8.wrap (shrI IntKind.i64 n13 24)).toNat, UInt8.ofNat (IntKind.u8.wrap (shrI IntKind.i64 n14 16)).toNat, UInt8.ofNat (IntKind.u8.wrap (shrI IntKind.i64 n12 8)).toNat, UInt8.ofNat (IntKind.u8.wrap n12).toNat].length) * 1 ≤ 140737488355328)) (Lq (l0 ++ [UInt8.ofNat (IntKind.u8.wrap (shrI IntKind.i64 n13 24)).toNat, UInt8.ofNat (IntKind.u8.wrap (shrI IntKind.i64 n14 16)).toNat, UInt8.ofNat (IntKind.u8.wrap (shrI IntKind.i64 n12 8)).toNat, UInt8.ofNat (IntKind.u8.wrap n12).toNat]) (IntKind.i64.wrap (n7 + 1))) none) (br (decide (n7 = 1)) (br (decide ((l0.length + [UInt8.ofNat (IntKind.u8.wrap (shrI IntKind.i64 n13 24)).toNat, UInt8.ofNat (IntKind.u8.wrap (shrI IntKind.i64 n14 16)).toNat, UInt8.ofNat (IntKind.u8.wrap (shrI IntKind.i64 n12 8)).toNat, UInt8.ofNat (IntKind.u8.wrap n13).toNat].length) * 1 ≤ 140737488355328)) (Lq (l0 ++ [UInt8.ofNat (IntKind.u8.wrap (shrI IntKind.i64 n13 24)).toNat, UInt8.ofNat (IntKind.u8.wrap (shrI IntKind.i64 n14 16)).toNat, UInt8.ofNat (IntKind.u8.wrap (shrI IntKind.i64 n12 8)).toNat, UInt8.ofNat (IntKind.u8.wrap n13).toNat]) (IntKind.i64.wrap (n7 + 1))) none) (br (decide (n7 = 2)) (br (decide ((l0.length + [UInt8.ofNat (IntKind.u8.wrap (shrI IntKind.i64 n13 24)).toNat, UInt8.ofNat (IntKind.u8.wrap (shrI IntKind.i64 n14 16)).toNat, UInt8.ofNat (IntKind.u8.wrap (shrI IntKind.i64 n12 8)).toNat, UInt8.ofNat (IntKind.u8.wrap n14).toNat].length) * 1 ≤ 140737488355328)) (Lq (l0 ++ [UInt8.ofNat (IntKind.u8.wrap (shrI IntKind.i64 n13 24)).toNat, UInt8.ofNat (IntKind.u8.wrap (shrI IntKind.i64 n14 16)).toNat, UInt8.ofNat (IntKind.u8.wrap (shrI IntKind.i64 n12 8)).toNat, UInt8.ofNat (IntKind.u8.wrap n14).toNat]) (IntKind.i64.wrap (n7 + 1))) none) none))) (br (decide (n7 = 1)) (br (decide (n7 = 0)) (br (decide ((l0.length + [UInt8.ofNat (IntKind.u8.wrap (shrI IntKind.i64 n13 24)).toNat, UInt8.ofNat (IntKind.u8.wrap (shrI IntKind.i64 n14 16)).toNat, UInt8.ofNat (IntKind.u8.wrap (shrI IntKind.i64 n13 8)).toNat, UInt8.ofNat (IntKind.u8.wrap n12).toNat].length) * 1 ≤ 140737488355328)) (Lq (l0 ++ [UInt8.ofNat (IntKind.u8.wrap (shrI IntKind.i64 n13 24)).toNat, UInt8.ofNat (IntKind.u8.wrap (shrI IntKind.i64 n14 16)).toNat, UInt8.ofNat (IntKind.u8.wrap (shrI IntKind.i64 n13 8)).toNat, UInt8.ofNat (IntKind.u8.wrap n12).toNat]) (IntKind.i64.wrap (n7 + 1))) none) (br (decide (n7 = 1)) (br (decide ((l0.length + [UInt8.ofNat (IntKind.u8.wrap (shrI IntKind.i64 n13 24)).toNat, UInt8.ofNat (IntKind.u8.wrap (shrI IntKind.i64 n14 16)).toNat, UInt8.ofNat (IntKind.u8.wrap (shrI IntKind.i64 n13 8)).toNat, UInt8.ofNat (IntKind.u8.wrap n13).toNat].length) * 1 ≤ 140737488355328)) (Lq (l0 ++ [UInt8.ofNat (IntKind.u8.wrap (shrI IntKind.i64 n13 24)).toNat, UInt8.ofNat (IntKind.u8.wrap (shrI IntKind.i64 n14 16)).toNat, UInt8.ofNat (IntKind.u8.wrap (shrI IntKind.i64 n13 8)).toNat, UInt8.ofNat (IntKind.u8.wrap n13).toNat]) (IntKind.i64.wrap (n7 + 1))) none) (br (decide (n7 = 2)) (br (decide ((l0.length + [UInt8.ofNat (IntKind.u8.wrap (shrI IntKind.i64 n13 24)).toNat, UInt8.ofNat (IntKind.u8.wrap (shrI IntKind.i64 n14 16)).toNat, UInt8.ofNat (IntKind.u8.wrap (shrI IntKind.i64 n13 8)).toNat, UInt8.ofNat (IntKind.u8.wrap n14).toNat].length) * 1 ≤ 140737488355328)) (Lq (l0 ++ [UInt8.ofNat (IntKind.u8.wrap (shrI IntKind.i64 n13 24)).toNat, UInt8.ofNat (IntKind.u8.wrap (shrI IntKind.i64 n14 16)).toNat, UInt8.ofNat (IntKind.u8.wrap (shrI IntKind.i64 n13 8)).toNat, UInt8.ofNat (IntKind.u8.wrap n14).toNat]) (IntKind.i64.wrap (n7 + 1))) none) none))) (br (decide (n7 = 2)) (br (decide (n7 = 0)) (br (decide ((l0.length + [UInt8.ofNat (IntKind.u8.wrap (shrI IntKind.i64 n13 24)).toNat, UInt8.ofNat (IntKind.u8.wrap (shrI IntKind.i64 n14 16)).toNat, UInt8.ofNat (IntKind.u8.wrap (shrI IntKind.i64 n14 8)).toNat, UInt8.ofNat (IntKind.u8.wrap n12).toNat].length) * 1 ≤ 140737488355328)) (Lq (l0 ++ [UInt8.ofNat (IntKind.u8.wrap (shrI IntKind.i64 n13 24)).toNat, UInt8.ofNat (IntKind.u8.wrap (shrI IntKind.i64 n14 16)).toNat, UInt8.ofNat (IntKind.u8.wrap (shrI IntKind.i64 n14 8)).toNat, UInt8.ofNat (IntKind.u8.wrap n12).toNat]) (IntKind.i64.wrap (n7 + 1))) none) (br (decide (n7 = 1)) (br (decide ((l0.length + [UInt8.ofNat (IntKind.u8.wrap (shrI IntKind.i64 n13 24)).toNat, UInt8.ofNat (IntKind.u8.wrap (shrI IntKind.i64 n14 16)).toNat, UInt8.ofNat (IntKind.u8.wrap (shrI IntKind.i64 n14 8)).toNat, UInt8.ofNat (IntKind.u8.wrap n13).toNat].length) * 1 ≤ 140737488355328)) (Lq (l0 ++ [UInt8.ofNat (IntKind.u8.wrap (shrI IntKind.i64 n13 24)).toNat, UInt8.ofNat (IntKind.u8.wrap (shrI IntKind.i64 n14 16)).toNat, UInt8.ofNat (IntKind.u8.wrap (shrI IntKind.i64 n14 8)).toNat, UInt8.ofNat (IntKind.u8.wrap n13).toNat]) (IntKind.i64.wrap (n7 + 1))) none) (br (decide (n7 = 2)) (br (decide ((l0.length + [UInt8.ofNat (IntKind.u8.wrap (shrI IntKind.i64 n13 24)).toNat, UInt8.ofNat (IntKind.u8.wrap (shrI IntKind.i64 n14 16)).toNat, UInt8.ofNat (IntKind.u8.wrap (shrI IntKind.i64 n14 8)).toNat, UInt8.ofNat (IntKind.u8.wrap n14).toNat].length) * 1 ≤ 140737488355328)) (Lq (l0 ++ [UInt8.ofNat (IntKind.u8.wrap (shrI IntKind.i64 n13 24)).toNat, UInt8.ofNat (IntKind.u8.wrap (shrI IntKind.i64 n14 16)).toNat, UInt8.ofNat (IntKind.u8.wrap (shrI IntKind.i64 n14 8)).toNat, UInt8.ofNat (IntKind.u8.wrap n14).toNat]) (IntKind.i64.wrap (n7 + 1))) none) none))) none))) none))) (br (decide (n7 = 2)) (br (decide (n7 = 0)) (br (decide (n7 = 0)) (br (decide (n7 = 0)) (br (decide ((l0.length + [UInt8.ofNat (IntKind.u8.wrap (shrI IntKind.i64 n14 24)).toNat, UInt8.ofNat (IntKind.u8.wrap (shrI IntKind.i64 n12 16)).toNat, UInt8.ofNat (IntKind.u8.wrap (shrI IntKind.i64 n12 8)).toNat, UInt8.ofNat (IntKind.u8.wrap n12).toNat].length) * 1 ≤ 140737488355328)) (Lq (l0 ++ [UInt8.ofNat (IntKind.u8.wrap (shrI IntKind.i64 n14 24)).toNat, UInt8.ofNat (IntKind.u8.wrap (shrI IntKind.i64 n12 16)).toNat, UInt8.ofNat (IntKind.u8.wrap (shrI IntKind.i64 n12 8)).toNat, UInt8.ofNat (IntKind.u8.wrap n12).toNat]) (IntKind.i64.wrap (n7 + 1))) none) (br (decide (n7 = 1)) (br (decide ((l0.length + [UInt8.ofNat (IntKind.u8.wrap (shrI IntKind.i64 n14 24)).toNat, UInt8.ofNat (IntKind.u8.wrap (shrI IntKind.i64 n12 16)).toNat, UInt8.ofNat (IntKind.u8.wrap (shrI IntKind.i64 n12 8)).toNat, UInt8.ofNat (IntKind.u8.wrap n13).toNat].length) * 1 ≤ 140737488355328)) (Lq (l0 ++ [UInt8.ofNat (IntKind.u8.wrap (shrI IntKind.i64 n14 24)).toNat, UInt8.ofNat (IntKind.u8.wrap (shrI IntKind.i64 n12 16)).toNat, UInt8.ofNat (IntKind.u8.wrap (shrI IntKind.i64 n12 8)).toNat, UInt8.ofNat (IntKind.u8.wrap n13).toNat]) (IntKind.i64.wrap (n7 + 1))) none) (br (decide (n7 = 2)) (br (decide ((l0.length + [UInt8.ofNat (IntKind.u8.wrap (shrI IntKind.i64 n14 24)).toNat, UInt8.ofNat (IntKind.u8.wrap (shrI IntKind.i64 n12 16)).toNat, UInt8.ofNat (IntKind.u8.wrap (shrI IntKind.i64 n12 8)).toNat, UInt8.ofNat (IntKind.u8.wrap n14).toNat].length) * 1 ≤ 140737488355328)) (Lq (l0 ++ [UInt8.ofNat (IntKind.u8.wrap (shrI IntKind.i64 n14 24)).toNat, UInt8.ofNat (IntKind.u8.wrap (shrI IntKind.i64 n12 16)).toNat, UInt8.ofNat (IntKind.u8.wrap (shrI IntKind.i64 n12 8)).toNat, UInt8.ofNat (IntKind.u8.wrap n14).toNat]) (IntKind.i64.wrap (n7 + 1))) none) none))) (br (decide (n7 = 1)) (br (decide (n7 = 0)) (br (decide ((l0.length + [UInt8.ofNat (IntKind.u8.wrap (shrI IntKind.i64 n14 24)).toNat, UInt8.ofNat (IntKind.u8.wrap (shrI IntKind.i64 n12 16)).toNat, UInt8.ofNat (IntKind.u8.wrap (shrI IntKind.i64 n13 8)).toNat, UInt8.ofNat (IntKind.u8.wrap n12).toNat].length) * 1 ≤ 140737488355328)) (Lq (l0 ++ [UInt8.ofNat (IntKind.u8.wrap (shrI IntKind.i64 n14 24)).toNat, UInt8.ofNat (IntKind.u8.wrap (shrI IntKind.i64 n12 16)).toNat, UInt8.ofNat (IntKind.u8.wrap (shrI IntKind.i64 n13 8)).toNat, UInt8.ofNat (IntKind.u8.wrap n12).toNat]) (IntKind.i64.wrap (n7 + 1))) none) (br (decide (n7 = 1)) (br (decide ((l0.length + [UInt8.ofNat (IntKind.u8.wrap (shrI IntKind.i64 n14 24)).toNat, UInt8.ofNat (IntKind.u8.wrap (shrI IntKind.i64 n12 16)).toNat, UInt8.ofNat (IntKind.u8.wrap (shrI IntKind.i64 n13 8)).toNat, UInt8.ofNat (IntKind.u8.wrap n13).toNat].length) * 1 ≤ 140737488355328)) (Lq (l0 ++ [UInt8.ofNat (IntKind.u8.wrap (shrI IntKind.i64 n14 24)).toNat, UInt8.ofNat (IntKind.u8.wrap (shrI IntKind.i64 n12 16)).toNat, UInt8.ofNat (IntKind.u8.wrap (shrI IntKind.i64 n13 8)).toNat, UInt8.ofNat (IntKind.u8.wrap n13).toNat]) (IntKind.i64.wrap (n7 + 1))) none) (br (decide (n7 = 2)) (br (decide ((l0.length + [UInt8.ofNat (IntKind.u8.wrap (shrI IntKind.i64 n14 24)).toNat, UInt8.ofNat (IntKind.u8.wrap (shrI IntKind.i64 n12 16)).toNat, UInt8.ofNat (IntKind.u8.wrap (shrI IntKind.i64 n13 8)).toNat, UInt8.ofNat (IntKind.u8.wrap n14).toNat].length) * 1 ≤ 140737488355328)) (Lq (l0 ++ [UInt8.ofNat (IntKind.u8.wrap (shrI IntKind.i64 n14 24)).toNat, UInt8.ofNat (IntKind.u8.wrap (shrI IntKind.i64 n12 16)).toNat, UInt8.ofNat (IntKind.u8.wrap (shrI IntKind.i64 n13 8)).toNat, UInt8.ofNat (IntKind.u8.wrap n14).toNat]) (IntKind.i64.wrap (n7 + 1))) none) none))) (br (decide (n7 = 2)) (br (decide (n7 = 0)) (br (decide ((l0.length + [UInt8.ofNat (IntKind.u8.wrap (shrI IntKind.i64 n14 24)).toNat, UInt8.ofNat (IntKind.u8.wrap (shrI IntKind.i64 n12 16)).toNat, UInt8.ofNat (IntKind.u8.wrap (shrI IntKind.i64 n14 8)).toNat, UInt8.ofNat (IntKind.u8.wrap n12).toNat].length) * 1 ≤ 140737488355328)) (Lq (l0 ++ [UInt8.ofNat (IntKind.u8.wrap (shrI IntKind.i64 n14 24)).toNat, UInt8.ofNat (IntKind.u8.wrap (shrI IntKind.i64 n12 16)).toNat, UInt8.ofNat (IntKind.u8.wrap (shrI IntKind.i64 n14 8)).toNat, UInt8.ofNat (IntKind.u8.wrap n12).toNat]) (IntKind.i64.wrap (n7 + 1))) none) (br (decide (n7 = 1)) (br (decide ((l0.length + [UInt8.ofNat (IntKind.u8.wrap (shrI IntKind.i64 n14 24)).toNat, UInt8.ofNat (IntKind.u8.wrap (shrI IntKind.i64 n12 16)).toNat, UInt8.ofNat (IntKind.u8.wrap (shrI IntKind.i64 n14 8)).toNat, UInt8.ofNat (IntKind.u8.wrap n13).toNat].length) * 1 ≤ 140737488355328)) (Lq (l0 ++ [UInt8.ofNat (IntKind.u8.wrap (shrI IntKind.i64 n14 24)).toNat, UInt8.ofNat (IntKind.u8.wrap (shrI IntKind.i64 n12 16)).toNat, UInt8.ofNat (IntKind.u8.wrap (shrI IntKind.i64 n14 8)).toNat, UInt8.ofNat (IntKind.u8.wrap n13).toNat]) (IntKind.i64.wrap (n7 + 1))) none) (br (decide (n7 = 2)) (br (decide ((l0.length + [UInt8.ofNat (IntKind.u8.wrap (shrI IntKind.i64 n14 24)).toNat, UInt8.ofNat (IntKind.u8.wrap (shrI IntKind.i64 n12 16)).toNat, UInt8.ofNat (IntKind.u8.wrap (shrI IntKind.i64 n14 8)).toNat, UInt8.ofNat (IntKind.u8.wrap n14).toNat].length) * 1 ≤ 140737488355328)) (Lq (l0 ++ [UInt8.ofNat (IntKind.u8.wrap (shrI IntKind.i64 n14 24)).toNat, UInt8.ofNat (IntKind.u8.wrap (shrI IntKind.i64 n12 16)).toNat, UInt8.ofNat (IntKind.u8.wrap (shrI IntKind.i64 n14 8)).toNat, UInt8.ofNat (IntKind.u8.wrap n14).toNat]) (IntKind.i64.wrap (n7 + 1))) none) none))) none))) (br (decide (n7 = 1)) (br (decide (n7 = 0)) (br (decide (n7 = 0)) (br (decide ((l0.length + [UInt8.ofNat (IntKind.u8.wrap (shrI IntKind.i64 n14 24)).toNat, UInt8.ofNat (IntKind.u8.wrap (shrI IntKind.i64 n13 16)).toNat, UInt8.ofNat (IntKind.u8.wrap (shrI IntKind.i64 n12 8)).toNat, UInt8.ofNat (IntKind.u8.wrap n12).toNat].length) * 1 ≤ 140737488355328)) (Lq (l0 ++ [UInt8.ofNat (IntKind.u8.wrap (shrI IntKind.i64 n14 24)).toNat, UInt8.ofNat (IntKind.u8.wrap (shrI IntKind.i64 n13 16)).toNat, UInt8.ofNat (IntKind.u8.wrap (shrI IntKind.i64 n12 8)).toNat, UInt8.ofNat (IntKind.u8.wrap n12).toNat]) (IntKind.i64.wrap (n7 + 1))) none) (br (decide (n7 = 1)) (br (decide ((l0.length + [UInt8.ofNat (IntKind.u8.wrap (shrI IntKind.i64 n14 24)).toNat, UInt8.ofNat (IntKind.u8.wrap (shrI IntKind.i64 n13 16)).toNat, UInt8.ofNat (IntKind.u8.wrap (shrI IntKind.i64 n12 8)).toNat, UInt8.ofNat (IntKind.u8.wrap n13).toNat].length) * 1 ≤ 140737488355328)) (Lq (l0 ++ [UInt8.ofNat (IntKind.u8.wrap (shrI IntKind.i64 n14 24)).toNat, UInt8.ofNat (IntKind.u8.wrap (shrI IntKind.i64 n13 16)).toNat, UInt8.ofNat (IntKind.u8.wrap (shrI IntKind.i64 n12 8)).toNat, UInt8.ofNat (IntKind.u8.wrap n13).toNat]) (IntKind.i64.wrap (n7 + 1))) none) (br (decide (n7 = 2)) (br (decide ((l0.length + [UInt8.ofNat (IntKind.u8.wrap (shrI IntKind.i64 n14 24)).toNat, UInt8.ofNat (IntKind.u8.wrap (shrI IntKind.i64 n13 16)).toNat, UInt8.ofNat (IntKind.u8.wrap (shrI IntKind.i64 n12 8)).toNat, UInt8.ofNat (IntKind.u8.wrap n14).toNat].length) * 1 ≤ 140737488355328)) (Lq (l0 ++ [UInt8.ofNat (IntKind.u8.wrap (shrI IntKind.i64 n14 24)).toNat, UInt8.ofNat (IntKind.u8.wrap (shrI IntKind.i64 n13 16)).toNat, UInt8.ofNat (IntKind.u8.wrap (shrI IntKind.i64 n12 8)).toNat, UInt8.ofNat (IntKind.u8.wrap n14).toNat]) (IntKind.i64.wrap (n7 + 1))) none) none))) (br (decide (n7 = 1)) (br (decide (n7 = 0)) (br (decide ((l0.length + [UInt8.ofNat (IntKind.u8.wrap (shrI IntKind.i64 n14 24)).toNat, UInt8.ofNat (IntKind.u8.wrap (shrI IntKind.i64 n13 16)).toNat, UInt8.ofNat (IntKind.u8.wrap (shrI IntKind.i64 n13 8)).toNat, UInt8.ofNat (IntKind.u8.wrap n12).toNat].length) * 1 ≤ 140737488355328)) (Lq (l0 ++ [UInt8.ofNat (IntKind.u8.wrap (shrI IntKind.i64 n14 24)).toNat, UInt8.ofNat (IntKind.u8.wrap (shrI IntKind.i64 n13 16)).toNat, UInt8.ofNat (IntKind.u8.wrap (shrI IntKind.i64 n13 8)).toNat, UInt8.ofNat (IntKind.u8.wrap n12).toNat]) (IntKind.i64.wrap (n7 + 1))) none) (br (decide (n7 = 1)) (br (decide ((l0.length + [UInt8.ofNat (IntKind.u8.wrap (shrI IntKind.i64 n14 24)).toNat, UInt8.ofNat (IntKind.u8.wrap (shrI IntKind.i64 n13 16)).toNat, UInt8.ofNat (IntKind.u8.wrap (shrI IntKind.i64 n13 8)).toNat, UInt8.ofNat (IntKind.u8.wrap n13).toNat].length) * 1 ≤ 140737488355328)) (Lq (l0 ++ [UInt8.ofNat (IntKind.u8.wrap (shrI IntKind.i64 n14 24)).toNat, UInt8.ofNat (IntKind.u8.wrap (shrI IntKind.i64 n13 16)).toNat, UInt8.ofNat (IntKind.u8.wrap (shrI IntKind.i64 n13 8)).toNat, UInt8.ofNat (IntKind.u8.wrap n13).toNat]) (IntKind.i64.wrap (n7 + 1))) none) (br (decide (n7 = 2)) (br (decide ((l0.length + [UInt8.ofNat (IntKind.u8.wrap (shrI IntKind.i64 n14 24)).toNat, UInt8.ofNat (IntKind.u8.wrap (shrI IntKind.i64 n13 16)).toNat, UInt8.ofNat (IntKind.u8.wrap (shrI IntKind.i64 n13 8)).toNat, UInt8.ofNat (IntKind.u8.wrap n14).toNat].length) * 1 ≤ 140737488355328)) (Lq (l0 ++ [UInt8.ofNat (IntKind.u8.wrap (shrI IntKind.i64 n14 24)).toNat, UInt8.ofNat (IntKind.u8.wrap (shrI IntKind.i64 n13 16)).toNat, UInt8.ofNat (IntKind.u8.wrap (shrI IntKind.i64 n13 8)).toNat, UInt8.ofNat (IntKind.u8.wrap n14).toNat]) (IntKind.i64.wrap (n7 + 1))) none) none))) (br (decide (n7 = 2)) (br (decide (n7 = 0)) (br (decide ((l0.length + [UInt8.ofNat (IntKind.u8.wrap (shrI IntKind.i64 n14 24)).toNat, UInt8.ofNat (IntKind.u8.wrap (shrI IntKind.i64 n13 16)).toNat, UInt8.ofNat (IntKind.u8.wrap (shrI IntKind.i64 n14 8)).toNat, UInt8.ofNat (IntKind.u8.wrap n12).toNat].length) * 1 ≤ 140737488355328)) (Lq (l0 ++ [UInt8.ofNat (IntKind.u8.wrap (shrI IntKind.i64 n14 24)).toNat, UInt8.ofNat (IntKind.u8.wrap (shrI IntKind.i64 n13 16)).toNat, UInt8.ofNat (IntKind.u8.wrap (shrI IntKind.i64 n14 8)).toNat, UInt8.ofNat (IntKind.u8.wrap n12).toNat]) (IntKind.i64.wrap (n7 + 1))) none) (br (decide (n7 = 1)) (br (decide ((l0.length + [UInt8.ofNat (IntKind.u8.wrap (shrI IntKind.i64 n14 24)).toNat, UInt8.ofNat (IntKind.u8.wrap (shrI IntKind.i64 n13 16)).toNat, UInt8.ofNat (IntKind.u8.wrap (shrI IntKind.i64 n14 8)).toNat, UInt8.ofNat (IntKind.u8.wrap n13).toNat].length) * 1 ≤ 140737488355328)) (Lq (l0 ++ [UInt8.ofNat (IntKind.u8.wrap (shrI IntKind.i64 n14 24)).toNat, UInt8.ofNat (IntKind.u8.wrap (shrI IntKind.i64 n13 16)).toNat, UInt8.ofNat (IntKind.u8.wrap (shrI IntKind.i64 n14 8)).toNat, UInt8.ofNat (IntKind.u8.wrap n13).toNat]) (IntKind.i64.wrap (n7 + 1))) none) (br (decide (n7 = 2)) (br (decide ((l0.length + [UInt8.ofNat (IntKind.u8.wrap (shrI IntKind.i64 n14 24)).toNat, UInt8.ofNat (IntKind.u8.wrap (shrI IntKind.i64 n13 16)).toNat, UInt8.ofNat (IntKind.u8.wrap (shrI IntKind.i64 n14 8)).toNat, UInt8.ofNat (IntKind.u8.wrap n14).toNat].length) * 1 ≤ 140737488355328)) (Lq (l0 ++ [UInt8.ofNat (IntKind.u8.wrap (shrI IntKind.i64 n14 24)).toNat, UInt8.ofNat (IntKind.u8.wrap (shrI IntKind.i64 n13 16)).toNat, UInt8.ofNat (IntKind.u8.wrap (shrI IntKind.i64 n14 8)).toNat, UInt8.ofNat (IntKind.u8.wrap n14).toNat]) (IntKind.i64.wrap (n7 + 1))) none) none))) none))) (br (decide (n7 = 2)) (br (decide (n7 = 0)) (br (decide (n7 = 0)) (br (decide ((l0.length + [UInt8.ofNat (IntKind.u8.wrap (shrI IntKind.i64 n14 24)).toNat, UInt8.ofNat (IntKind.u8.wrap (shrI IntKind.i64 n14 16)).toNat, UInt8.ofNat (IntKind.u8.wrap (shrI IntKind.i64 n12 8)).toNat, UInt8.ofNat (IntKind.u8.wrap n12).toNat].length) * 1 ≤ 140737488355328)) (Lq (l0 ++ [UInt8.ofNat (IntKind.u8.wrap (shrI IntKind.i64 n14 24)).toNat, UInt8.ofNat (IntKind.u8.wrap (shrI IntKind.i64 n14 16)).toNat, UInt8.ofNat (IntKind.u8.wrap (shrI IntKind.i64 n12 8)).toNat, UInt8.ofNat (IntKind.u8.wrap n12).toNat]) (IntKind.i64.wrap (n7 + 1))) none) (br (decide (n7 = 1)) (br (decide ((l0.length + [UInt8.ofNat (IntKind.u8.wrap (shrI IntKind.i64 n14 24)).toNat, UInt8.ofNat (IntKind.u8.wrap (shrI IntKind.i64 n14 16)).toNat, UInt8.ofNat (IntKind.u8.wrap (shrI IntKind.i64 n12 8)).toNat, UInt8.ofNat (IntKind.u8.wrap n13).toNat].length) * 1 ≤ 140737488355328)) (Lq (l0 ++ [UInt8.ofNat (IntKind.u8.wrap (shrI IntKind.i64 n14 24)).toNat, UInt8.ofNat (IntKind.u8.wrap (shrI IntKind.i64 n14 16)).toNat, UInt8.ofNat (IntKind.u8.wrap (shrI IntKind.i64 n12 8)).toNat, UInt8.ofNat (IntKind.u8.wrap n13).toNat]) (IntKind.i64.wrap (n7 + 1))) none) (br (decide (n7 = 2)) (br (decide ((l0.length + [UInt8.ofNat (IntKind.u8.wrap (shrI IntKind.i64 n14 24)).toNat, UInt8.ofNat (IntKind.u8.wrap (shrI IntKind.i64 n14 16)).toNat, UInt8.ofNat (IntKind.u8.wrap (shrI IntKind.i64 n12 8)).toNat, UInt8.ofNat (IntKind.u8.wrap n14).toNat].length) * 1 ≤ 140737488355328)) (Lq (l0 ++ [UInt8.ofNat (IntKind.u8.wrap (shrI IntKind.i64 n14 24)).toNat, UInt8.ofNat (IntKind.u8.wrap (shrI IntKind.i64 n14 16)).toNat, UInt8.ofNat (IntKind.u8.wrap (shrI IntKind.i64 n12 8)).toNat, UInt8.ofNat (IntKind.u8.wrap n14).toNat]) (IntKind.i64.wrap (n7 + 1))) none) none))) (br (decide (n7 = 1)) (br (decide (n7 = 0)) (br (decide ((l0.length + [UInt8.ofNat (IntKind.u8.wrap (shrI IntKind.i64 n14 24)).toNat, UInt8.ofNat (IntKind.u8.wrap (shrI IntKind.i64 n14 16)).toNat, UInt8.ofNat (IntKind.u8.wrap (shrI IntKind.i64 n13 8)).toNat, UInt8.ofNat (IntKind.u8.wrap n12).toNat].length) * 1 ≤ 140737488355328)) (Lq (l0 ++ [UInt8.ofNat (IntKind.u8.wrap (shrI IntKind.i64 n14 24)).toNat, UInt8.ofNat (IntKind.u8.wrap (shrI IntKind.i64 n14 16)).toNat, UInt8.ofNat (IntKind.u8.wrap (shrI IntKind.i64 n13 8)).toNat, UInt8.ofNat (IntKind.u8.wrap n12).toNat]) (IntKind.i64.wrap (n7 + 1))) none) (br (decide (n7 = 1)) (br (decide ((l0.length + [UInt8.ofNat (IntKind.u8.wrap (shrI IntKind.i64 n14 24)).toNat, UInt8.ofNat (IntKind.u8.wrap (shrI IntKind.i64 n14 16)).toNat, UInt8.ofNat (IntKind.u8.wrap (shrI IntKind.i64 n13 8)).toNat, UInt8.ofNat (IntKind.u8.wrap n13).toNat].length) * 1 ≤ 140737488355328)) (Lq (l0 ++ [UInt8.ofNat (IntKind.u8.wrap (shrI IntKind.i64 n14 24)).toNat, UInt8.ofNat (IntKind.u8.wrap (shrI IntKind.i64 n14 16)).toNat, UInt8.ofNat (IntKind.u8.wrap (shrI IntKind.i64 n13 8)).toNat, UInt8.ofNat (IntKind.u8.wrap n13).toNat]) (IntKind.i64.wrap (n7 + 1))) none) (br (decide (n7 = 2)) (br (decide ((l0.length + [UInt8.ofNat (IntKind.u8.wrap (shrI IntKind.i64 n14 24)).toNat, UInt8.ofNat (IntKind.u8.wrap (shrI IntKind.i64 n14 16)).toNat, UInt8.ofNat (IntKind.u8.wrap (shrI IntKind.i64 n13 8)).toNat, UInt8.ofNat (IntKind.u8.wrap n14).toNat].length) * 1 ≤ 140737488355328)) (Lq (l0 ++ [UInt8.ofNat (IntKind.u8.wrap (shrI IntKind.i64 n14 24)).toNat, UInt8.ofNat (IntKind.u8.wrap (shrI IntKind.i64 n14 16)).toNat, UInt8.ofNat (IntKind.u8.wrap (shrI IntKind.i64 n13 8)).toNat, UInt8.ofNat (IntKind.u8.wrap n14).toNat]) (IntKind.i64.wrap (n7 + 1))) none) none))) (br (decide (n7 = 2)) (br (decide (n7 = 0)) (br (decide ((l0.length + [UInt8.ofNat (IntKind.u8.wrap (shrI IntKind.i64 n14 24)).toNat, UInt8.ofNat (IntKind.u8.wrap (shrI IntKind.i64 n14 16)).toNat, UInt8.ofNat (IntKind.u8.wrap (shrI IntKind.i64 n14 8)).toNat, UInt8.ofNat (IntKind.u8.wrap n12).toNat].length) * 1 ≤ 140737488355328)) (Lq (l0 ++ [UInt8.ofNat (IntKind.u8.wrap (shrI IntKind.i64 n14 24)).toNat, UInt8.ofNat (IntKind.u8.wrap (shrI IntKind.i64 n14 16)).toNat, UInt8.ofNat (IntKind.u8.wrap (shrI IntKind.i64 n14 8)).toNat, UInt8.ofNat (IntKind.u8.wrap n12).toNat]) (IntKind.i64.wrap (n7 + 1))) none) (br (decide (n7 = 1)) (br (decide ((l0.length + [UInt8.ofNat (IntKind.u8.wrap (shrI IntKind.i64 n14 24)).toNat, UInt8.ofNat (IntKind.u8.wrap (shrI IntKind.i64 n14 16)).toNat, UInt8.ofNat (IntKind.u8.wrap (shrI IntKind.i64 n14 8)).toNat, UInt8.ofNat (IntKind.u8.wrap n13).toNat].length) * 1 ≤ 140737488355328)) (Lq (l0 ++ [UInt8.ofNat (IntKind.u8.wrap (shrI IntKind.i64 n14 24)).toNat, UInt8.ofNat (IntKind.u8.wrap (shrI IntKind.i64 n14 16)).toNat, UInt8.ofNat (IntKind.u8.wrap (shrI IntKind.i64 n14 8)).toNat, UInt8.ofNat (IntKind.u8.wrap n13).toNat]) (IntKind.i64.wrap (n7 + 1))) none) (br (decide (n7 = 2)) (br (decide ((l0.length + [UInt8.ofNat (IntKind.u8.wrap (shrI IntKind.i64 n14 24)).toNat, UInt8.ofNat (IntKind.u8.wrap (shrI IntKind.i64 n14 16)).toNat, UInt8.ofNat (IntKind.u8.wrap (shrI IntKind.i64 n14 8)).toNat, UInt8.ofNat (IntKind.u8.wrap n14).toNat].length) * 1 ≤ 140737488355328)) (Lq (l0 ++ [UInt8.ofNat (IntKind.u8.wrap (shrI IntKind.i64 n14 24)).toNat, UInt8.ofNat (IntKind.u8.wrap (shrI IntKind.i64 n14 16)).toNat, UInt8.ofNat (IntKind.u8.wrap (shrI IntKind.i64 n14 8)).toNat, UInt8.ofNat (IntKind.u8.wrap n14).toNat]) (IntKind.i64.wrap (n7 + 1))) none) none))) none))) none))) none))) (br (decide (n7 = 0)) (br (decide ((l0.length + [UInt8.ofNat (IntKind.u8.wrap n12).toNat].length) * 1 ≤ 140737488355328)) (Lq (l0 ++ [UInt8.ofNat (IntKind.u8.wrap n12).toNat]) (IntKind.i64.wrap (n7 + 1))) none) (br (decide (n7 = 1)) (br (decide ((l0.length + [UInt8.ofNat (IntKind.u8.wrap n13).toNat].length) * 1 ≤ 140737488355328)) (Lq (l0 ++ [UInt8.ofNat (IntKind.u8.wrap n13).toNat]) (IntKind.i64.wrap (n7 + 1))) none) (br (decide (n7 = 2)) (br (decide ((l0.length + [UInt8.ofNat (IntKind.u8.wrap n14).toNat].length) * 1 ≤ 140737488355328)) (Lq (l0 ++ [UInt8.ofNat (IntKind.u8.wrap n14).toNat]) (IntKind.i64.wrap (n7 + 1))) none) none))))) (br (decide (n7 = 2)) (br (decide (n6 = 0)) (Lq l0 (IntKind.i64.wrap (n7 + 1))) (br (decide (n6 = 1)) (br (decide (n7 = 0)) (br (decide (n7 = 0)) (br (decide (n7 = 0)) (br (decide (n7 = 0)) (br (decide ((l0.length + [UInt8.ofNat (IntKind.u8.wrap (shrI IntKind.i64 n12 24)).toNat, UInt8.ofNat (IntKind.u8.wrap (shrI IntKind.i64 n12 16)).toNat, UInt8.ofNat (IntKind.u8.wrap (shrI IntKind.i64 n12 8)).toNat, UInt8.ofNat (IntKind.u8.wrap n12).toNat].length) * 1 ≤ 140737488355328)) (Lq (l0 ++ [UInt8.ofNat (IntKind.u8.wrap (shrI IntKind.i64 n12 24)).toNat, UInt8.ofNat (IntKind.u8.wrap (shrI IntKind.i64 n12 16)).toNat, UInt8.ofNat (IntKind.u8.wrap (shrI IntKind.i64 n12 8)).toNat, UInt8.ofNat (IntKind.u8.wrap n12).toNat]) (IntKind.i64.wrap (n7 + 1))) none) (br (decide (n7 = 1)) (br (decide ((l0.length + [UInt8.ofNat (IntKind.u8.wrap (shrI IntKind.i64 n12 24)).toNat, UInt8.ofNat (IntKind.u8.wrap (shrI IntKind.i64 n12 16)).toNat, UInt8.ofNat (IntKind.u8.wrap (shrI IntKind.i64 n12 8)).toNat, UInt8.ofNat (IntKind.u8.wrap n13).toNat].length) * 1 ≤ 140737488355328)) (Lq (l0 ++ [UInt8.ofNat (IntKind.u8.wrap (shrI IntKind.i64 n12 24)).toNat, UInt8.ofNat (IntKind.u8.wrap (shrI IntKind.i64 n12 16)).toNat, UInt8.ofNat (IntKind.u8.wrap (shrI IntKind.i64 n12 8)).toNat, UInt8.ofNat (IntKind.u8.wrap n13).toNat]) (IntKind.i64.wrap (n7 + 1))) none) (br (decide (n7 = 2)) (br (decide ((l0.length + [UInt8.ofNat (IntKind.u8.wrap (shrI IntKind.i64 n12 24)).toNat, UInt8.ofNat (IntKind.u8.wrap (shrI IntKind.i64 n12 16)).toNat, UInt8.ofNat (IntKind.u8.wrap (shrI IntKind.i64 n12 8)).toNat, UInt8.ofNat (IntKind.u8.wrap n14).toNat].length) * 1 ≤ 140737488355328)) (Lq (l0 ++ [UInt8.ofNat (IntKind.u8.wrap (shrI IntKind.i64 n12 24)).toNat, UInt8.ofNat (IntKind.u8.wrap (shrI IntKind.i64 n12 16)).toNat, UInt8.ofNat (IntKind.u8.wrap (shrI IntKind.i64 n12 8)).toNat, UInt8.ofNat (IntKind.u8.wrap n14).toNat]) (IntKind.i64.wrap (n7 + 1))) none) none))) (br (decide (n7 = 1)) (br (decide (n7 = 0)) (br (decide ((l0.length + [UInt8.ofNat (IntKind.u8.wrap (shrI IntKind.i64 n12 24)).toNat, UInt8.ofNat (IntKind.u8.wrap (shrI IntKind.i64 n12 16)).toNat, UInt8.ofNat (IntKind.u8.wrap (shrI IntKind.i64 n13 8)).toNat, UInt8.ofNat (IntKind.u8.wrap n12).toNat].length) * 1 ≤ 140737488355328)) (Lq (l0 ++ [UInt8.ofNat (IntKind.u8.wrap (shrI IntKind.i64 n12 24)).toNat, UInt8.ofNat (IntKind.u8.wrap (shrI IntKind.i64 n12 16)).toNat, UInt8.ofNat (IntKind.u8.wrap (shrI IntKind.i64 n13 8)).toNat, UInt8.ofNat (IntKind.u8.wrap n12).toNat]) (IntKind.i64.wrap (n7 + 1))) none) (br (decide (n7 = 1)) (br (decide ((l0.length + [UInt8.ofNat (IntKind.u8.wrap (shrI IntKind.i64 n12 24)).toNat, UInt8.ofNat (IntKind.u8.wrap (shrI IntKind.i64 n12 16)).toNat, UInt8.ofNat (IntKind.u8.wrap (shrI IntKind.i64 n13 8)).toNat, UInt8.ofNat (IntKind.u8.wrap n13).toNat].length) * 1 ≤ 140737488355328)) (Lq (l0 ++ [UInt8.ofNat (IntKind.u8.wrap (shrI IntKind.i64 n12 24)).toNat, UInt8.ofNat (IntKind.u8.wrap (shrI IntKind.i64 n12 16)).toNat, UInt8.ofNat (IntKind.u8.wrap (shrI IntKind.i64 n13 8)).toNat, UInt8.ofNat (IntKind.u8.wrap n13).toNat]) (IntKind.i64.wrap (n7 + 1))) none) (br (decide (n7 = 2)) (br (decide ((l0.length + [UInt8.ofNat (IntKind.u8.wrap (shrI IntKind.i64 n12 24)).toNat, UInt8.ofNat (IntKind.u8.wrap (shrI IntKind.i64 n12 16)).toNat, UInt8.ofNat (IntKind.u8.wrap (shrI IntKind.i64 n13 8)).toNat, UInt8.ofNat (IntKind.u8.wrap n14).toNat].length) * 1 ≤ 140737488355328)) (Lq (l0 ++ [UInt8.ofNat (IntKind.u8.wrap (shrI IntKind.i64 n12 24)).toNat, UInt8.ofNat (IntKind.u8.wrap (shrI IntKind.i64 n12 16)).toNat, UInt8.ofNat (IntKind.u8.wrap (shrI IntKind.i64 n13 8)).toNat, UInt8.ofNat (IntKind.u8.wrap n14).toNat]) (IntKind.i64.wrap (n7 + 1))) none) none))) (br (decide (n7 = 2)) (br (decide (n7 = 0)) (br (decide ((l0.length + [UInt8.ofNat (IntKind.u8.wrap (shrI IntKind.i64 n12 24)).toNat, UInt8.ofNat (IntKind.u8.wrap (shrI IntKind.i64 n12 16)).toNat, UInt8.ofNat (IntKind.u8.wrap (shrI IntKind.i64 n14 8)).toNat, UInt8.ofNat (IntKind.u8.wrap n12).toNat].length) * 1 ≤ 140737488355328)) (Lq (l0 ++ [UInt8.ofNat (IntKind.u8.wrap (shrI IntKind.i64 n12 24)).toNat, UInt8.ofNat (IntKind.u8.wrap (shrI IntKind.i64 n12 16)).toNat, UInt8.ofNat (IntKind.u8.wrap (shrI IntKind.i64 n14 8)).toNat, UInt8.ofNat (IntKind.u8.wrap n12).toNat]) (IntKind.i64.wrap (n7 + 1))) none) (br (decide (n7 = 1)) (br (decide ((l0.length + [UInt8.ofNat (IntKind.u8.wrap (shrI IntKind.i64 n12 24)).toNat, UInt8.ofNat (IntKind.u8.wrap (shrI IntKind.i64 n12 16)).toNat, UInt8.ofNat (IntKind.u8.wrap (shrI IntKind.i64 n14 8)).toNat, UInt8.ofNat (IntKind.u8.wrap n13).toNat].length) * 1 ≤ 140737488355328)) (Lq (l0 ++ [UInt8.ofNat (IntKind.u8.wrap (shrI IntKind.i64 n12 24)).toNat, UInt8.ofNat (IntKind.u8.wrap (shrI IntKind.i64 n12 16)).toNat, UInt8.ofNat (IntKind.u8.wrap (shrI IntKind.i64 n14 8)).toNat, UInt8.ofNat (IntKind.u8.wrap n13).toNat]) (IntKind.i64.wrap (n7 + 1))) none) (br (decide (n7 = 2)) (br (decide ((l0.length + [UInt8.ofNat (IntKind.u8.wrap (shrI IntKind.i64 n12 24)).toNat, UInt8.ofNat (IntKind.u8.wrap (shrI IntKind.i64 n12 16)).toNat, UInt8.ofNat (IntKind.u8.wrap (shrI IntKind.i64 n14 8)).toNat, UInt8.ofNat (IntKind.u8.wrap n14).toNat].length) * 1 ≤ 140737488355328)) (Lq (l0 ++ [UInt8.ofNat (IntKind.u8.wrap (shrI IntKind.i64 n12 24)).toNat, UInt8.ofNat (IntKind.u8.wrap (shrI IntKind.i64 n12 16)).toNat, UInt8.ofNat (IntKind.u8.wrap (shrI IntKind.i64 n14 8)).toNat, UInt8.ofNat (IntKind.u8.wrap n14).toNat]) (IntKind.i64.wrap (n7 + 1))) none) none))) none))) (br (decide (n7 = 1)) (br (decide (n7 = 0)) (br (decide (n7 = 0)) (br (decide ((l0.length + [UInt8.ofNat (IntKind.u8.wrap (shrI IntKind.i64 n12 24)).toNat, UInt8.ofNat (IntKind.u8.wrap (shrI IntKind.i64 n13 16)).toNat, UInt8.ofNat (IntKind.u8.wrap (shrI IntKind.i64 n12 8)).toNat, UInt8.ofNat (IntKind.u8.wrap n12).toNat].length) * 1 ≤ 140737488355328)) (Lq (l0 ++ [UInt8.ofNat (IntKind.u8.wrap (shrI IntKind.i64 n12 24)).toNat, UInt8.ofNat (IntKind.u8.wrap (shrI IntKind.i64 n13 16)).toNat, UInt8.ofNat (IntKind.u8.wrap (shrI IntKind.i64 n12 8)).toNat, UInt8.ofNat (IntKind.u8.wrap n12).toNat]) (IntKind.i64.wrap (n7 + 1))) none) (br (decide (n7 = 1)) (br (decide ((l0.length + [UInt8.ofNat (IntKind.u8.wrap (shrI IntKind.i64 n12 24)).toNat, UInt8.ofNat (IntKind.u8.wrap (shrI IntKind.i64 n13 16)).toNat, UInt8.ofNat (IntKind.u8.wrap (shrI IntKind.i64 n12 8)).toNat, UInt8.ofNat (IntKind.u8.wrap n13).toNat].length) * 1 ≤ 140737488355328)) (Lq (l0 ++ [UInt8.ofNat (IntKind.u8.wrap (shrI IntKind.i64 n12 24)).toNat, UInt8.ofNat (IntKind.u8.wrap (shrI IntKind.i64 n13 16)).toNat, UInt8.ofNat (IntKind.u8.wrap (shrI IntKind.i64 n12 8)).toNat, UInt8.ofNat (IntKind.u8.wrap n13).toNat]) (IntKind.i64.wrap (n7 + 1))) none) (br (decide (n7 = 2)) (br (decide ((l0.length + [UInt8.ofNat (IntKind.u8.wrap (shrI IntKind.i64 n12 24)).toNat, UInt8.ofNat (IntKind.u8.wrap (shrI IntKind.i64 n13 16)).toNat, UInt8.ofNat (IntKind.u8.wrap (shrI IntKind.i64 n12 8)).toNat, UInt8.ofNat (IntKind.u8.wrap n14).toNat].length) * 1 ≤ 140737488355328)) (Lq (l0 ++ [UInt8.ofNat (IntKind.u8.wrap (shrI IntKind.i64 n12 24)).toNat, UInt8.ofNat (IntKind.u8.wrap (shrI IntKind.i64 n13 16)).toNat, UInt8.ofNat (IntKind.u8.wrap (shrI IntKind.i64 n12 8)).toNat, UInt8.ofNat (IntKind.u8.wrap n14).toNat]) (IntKind.i64.wrap (n7 + 1))) none) none))) (br (decide (n7 = 1)) (br (decide (n7 = 0)) (br (decide ((l0.length + [UInt8.ofNat (IntKind.u8.wrap (shrI IntKind.i64 n12 24)).toNat, UInt8.ofNat (IntKind.u8.wrap (shrI IntKind.i64 n13 16)).toNat, UInt8.ofNat (IntKind.u8.wrap (shrI IntKind.i64 n13 8)).toNat, UInt8.ofNat (IntKind.u8.wrap n12).toNat].length) * 1 ≤ 140737488355328)) (Lq (l0 ++ [UInt8.ofNat (IntKind.u8.wrap (shrI IntKind.i64 n12 24)).toNat, UInt8.ofNat (IntKind.u8.wrap (shrI IntKind.i64 n13 16)).toNat, UInt8.ofNat (IntKind.u8.wrap (shrI IntKind.i64 n13 8)).toNat, UInt8.ofNat (IntKind.u8.wrap n12).toNat]) (IntKind.i64.wrap (n7 + 1))) none) (br (decide (n7 = 1)) (br (decide ((l0.length + [UInt8.ofNat (IntKind.u8.wrap (shrI IntKind.i64 n12 24)).toNat, UInt8.ofNat (IntKind.u8.wrap (shrI IntKind.i64 n13 16)).toNat, UInt8.ofNat (IntKind.u8.wrap (shrI IntKind.i64 n13 8)).toNat, UInt8.ofNat (IntKind.u8.wrap n13).toNat].length) * 1 ≤ 140737488355328)) (Lq (l0 ++ [UInt8.ofNat (IntKind.u8.wrap (shrI IntKind.i64 n12 24)).toNat, UInt8.ofNat (IntKind.u8.wrap (shrI IntKind.i64 n13 16)).toNat, UInt8.ofNat (IntKind.u8.wrap (shrI IntKind.i64 n13 8)).toNat, UInt8.ofNat (IntKind.u8.wrap n13).toNat]) (IntKind.i64.wrap (n7 + 1))) none) (br (decide (n7 = 2)) (br (decide ((l0.length + [UInt8.ofNat (IntKind.u8.wrap (shrI IntKind.i64 n12 24)).toNat, UInt8.ofNat (IntKind.u8.wrap (shrI IntKind.i64 n13 16)).toNat, UInt8.ofNat (IntKind.u8.wrap (shrI IntKind.i64 n13 8)).toNat, UInt8.ofNat (IntKind.u8.wrap n14).toNat].length) * 1 ≤ 140737488355328)) (Lq (l0 ++ [UInt8.ofNat (IntKind.u8.wrap (shrI IntKind.i64 n12 24)).toNat, UInt8.ofNat (IntKind.u8.wrap (shrI IntKind.i64 n13 16)).toNat, UInt8.ofNat (IntKind.u8.wrap (shrI IntKind.i64 n13 8)).toNat, UInt8.ofNat (IntKind.u8.wrap n14).toNat]) (IntKind.i64.wrap (n7 + 1))) none) none))) (br (decide (n7 = 2)) (br (decide (n7 = 0)) (br (decide ((l0.length + [UInt8.ofNat (IntKind.u8.wrap (shrI IntKind.i64 n12 24)).toNat, UInt8.ofNat (IntKind.u8.wrap (shrI IntKind.i64 n13 16)).toNat, UInt8.ofNat (IntKind.u8.wrap (shrI IntKind.i64 n14 8)).toNat, UInt8.ofNat (IntKind.u8.wrap n12).toNat].length) * 1 ≤ 140737488355328)) (Lq (l0 ++ [UInt8.ofNat (IntKind.u8.wrap (shrI IntKind.i64 n12 24)).toNat, UInt8.ofNat (IntKind.u8.wrap (shrI IntKind.i64 n13 16)).toNat, UInt8.ofNat (IntKind.u8.wrap (shrI IntKind.i64 n14 8)).toNat, UInt8.ofNat (IntKind.u8.wrap n12).toNat]) (IntKind.i64.wrap (n7 + 1))) none) (br (decide (n7 = 1)) (br (decide ((l0.length + [UInt8.ofNat (IntKind.u8.wrap (shrI IntKind.i64 n12 24)).toNat, UInt8.ofNat (IntKind.u8.wrap (shrI IntKind.i64 n13 16)).toNat, UInt8.ofNat (IntKind.u8.wrap (shrI IntKind.i64 n14 8)).toNat, UInt8.ofNat (IntKind.u8.wrap n13).toNat].length) * 1 ≤ 140737488355328)) (Lq (l0 ++ [UInt8.ofNat (IntKind.u8.wrap (shrI IntKind.i64 n12 24)).toNat, UInt8.ofNat (IntKind.u8.wrap (shrI IntKind.i64 n13 16)).toNat, UInt8.ofNat (IntKind.u8.wrap (shrI IntKind.i64 n14 8)).toNat, UInt8.ofNat (IntKind.u8.wrap n13).toNat]) (IntKind.i64.wrap (n7 + 1))) none) (br (decide (n7 = 2)) (br (decide ((l0.length + [UInt8.ofNat (IntKind.u8.wrap (shrI IntKind.i64 n12 24)).toNat, UInt8.ofNat (IntKind.u8.wrap (shrI IntKind.i64 n13 16)).toNat, UInt8.ofNat (IntKind.u8.wrap (shrI IntKind.i64 n14 8)).toNat, UInt8.ofNat (IntKind.u8.wrap n14).toNat].length) * 1 ≤ 140737488355328)) (Lq (l0 ++ [UInt8.ofNat (IntKind.u8.wrap (shrI IntKind.i64 n12 24)).toNat, UInt8.ofNat (IntKind.u8.wrap (shrI IntKind.i64 n13 16)).toNat, UInt8.ofNat (IntKind.u8.wrap (shrI IntKind.i64 n14 8)).toNat, UInt8.ofNat (IntKind.u8.wrap n14).toNat]) (IntKind.i64.wrap (n7 + 1))) none) none))) none))) (br (decide (n7 = 2)) (br (decide (n7 = 0)) (br (decide (n7 = 0)) (br (decide ((l0.length + [UInt8.ofNat (IntKind.u8.wrap (shrI IntKind.i64 n12 24)).toNat, UInt8.ofNat (IntKind.u8.wrap (shrI IntKind.i64 n14 16)).toNat, UInt8.ofNat (IntKind.u8.wrap (shrI IntKind.i64 n12 8)).toNat, UInt8.ofNat (IntKind.u8.wrap n12).toNat].length) * 1 ≤ 140737488355328)) (Lq (l0 ++ [UInt8.ofNat (IntKind.u8.wrap (shrI IntKind.i64 n12 24)).toNat, UInt8.ofNat (IntKind.u8.wrap (shrI IntKind.i64 n14 16)).toNat, UInt8.ofNat (IntKind.u8.wrap (shrI IntKind.i64 n12 8)).toNat, UInt8.ofNat (IntKind.u8.wrap n12).toNat]) (IntKind.i64.wrap (n7 + 1))) none) (br (decide (n7 = 1)) (br (decide ((l0.length + [UInt8.ofNat (IntKind.u8.wrap (shrI IntKind.i64 n12 24)).toNat, UInt8.ofNat (IntKind.u8.wrap (shrI IntKind.i64 n14 16)).toNat, UInt8.ofNat (IntKind.u8.wrap (shrI IntKind.i64 n12 8)).toNat, UInt8.ofNat (IntKind.u8.wrap n13).toNat].length) * 1 ≤ 140737488355328)) (Lq (l0 ++ [UInt8.ofNat (IntKind.u8.wrap (shrI IntKind.i64 n12 24)).toNat, UInt8.ofNat (IntKind.u8.wrap (shrI IntKind.i64 n14 16)).toNat, UInt8.ofNat (IntKind.u8.wrap (shrI IntKind.i64 n12 8)).toNat, UInt8.ofNat (IntKind.u8.wrap n13).toNat]) (IntKind.i64.wrap (n7 + 1))) none) (br (decide (n7 = 2)) (br (decide ((l0.length + [UInt8.ofNat (IntKind.u8.wrap (shrI IntKind.i64 n12 24)).toNat, UInt8.ofNat (IntKind.u8.wrap (shrI IntKind.i64 n14 16)).toNat, UInt8.ofNat (IntKind.u8.wrap (shrI IntKind.i64 n12 8)).toNat, UInt8.ofNat (IntKind.u8.wrap n14).toNat].length) * 1 ≤ 140737488355328)) (Lq (l0 ++ [UInt8.ofNat (IntKind.u8.wrap (shrI IntKind.i64 n12 24)).toNat, UInt8.ofNat (IntKind.u8.wrap (shrI IntKind.i64 n14 16)).toNat, UInt8.ofNat (IntKind.u8.wrap (shrI IntKind.i64 n12 8)).toNat, UInt8.ofNat (IntKind.u8.wrap n14).toNat]) (IntKind.i64.wrap (n7 + 1))) none) none))) (br (decide (n7 = 1)) (br (decide (n7 = 0)) (br (decide ((l0.length + [UInt8.ofNat (IntKind.u8.wrap (shrI IntKind.i64 n12 24)).toNat, UInt8.ofNat (IntKind.u8.wrap (shrI IntKind.i64 n14 16)).toNat, UInt8.ofNat (IntKind.u8.wrap (shrI IntKind.i64 n13 8)).toNat, UInt8.ofNat (IntKind.u8.wrap n12).toNat].length) * 1 ≤ 140737488355328)) (Lq (l0 ++ [UInt8.ofNat (IntKind.u8.wrap (shrI IntKind.i64 n12 24)).toNat, UInt8.ofNat (IntKind.u8.wrap (shrI IntKind.i64 n14 16)).toNat, UInt8.ofNat (IntKind.u8.wrap (shrI IntKind.i64 n13 8)).toNat, UInt8.ofNat (IntKind.u8.wrap n12).toNat]) (IntKind.i64.wrap (n7 + 1))) none) (br (decide (n7 = 1)) (br (decide ((l0.length + [UInt8.ofNat (IntKind.u8.wrap (shrI IntKind.i64 n12 24)).toNat, UInt8.ofNat (IntKind.u8.wrap (shrI IntKind.i64 n14 16)).toNat, UInt8.ofNat (IntKind.u8.wrap (shrI IntKind.i64 n13 8)).toNat, UInt8.ofNat (IntKind.u8.wrap n13).toNat].length) * 1 ≤ 140737488355328)) (Lq (l0 ++ [UInt8.ofNat (IntKind.u8.wrap (shrI IntKind.i64 n12 24)).toNat, UInt8.ofNat (IntKind.u8.wrap (shrI IntKind.i64 n14 16)).toNat, UInt8.ofNat (IntKind.u8.wrap (shrI IntKind.i64 n13 8)).toNat, UInt8.ofNat (IntKind.u8.wrap n13).toNat]) (IntKind.i64.wrap (n7 + 1))) none) (br (decide (n7 = 2)) (br (decide ((l0.length + [UInt8.ofNat (IntKind.u8.wrap (shrI IntKind.i64 n12 24)).toNat, UInt8.ofNat (IntKind.u8.wrap (shrI IntKind.i64 n14 16)).toNat, UInt8.ofNat (IntKind.u8.wrap (shrI IntKind.i64 n13 8)).toNat, UInt8.ofNat (IntKind.u8.wrap n14).toNat].length) * 1 ≤ 140737488355328)) (Lq (l0 ++ [UInt8.ofNat (IntKind.u8.wrap (shrI IntKind.i64 n12 24)).toNat, UInt8.ofNat (IntKind.u8.wrap (shrI IntKind.i64 n14 16)).toNat, UInt8.ofNat (IntKind.u8.wrap (shrI IntKind.i64 n13 8)).toNat, UInt8.ofNat (IntKind.u8.wrap n14).toNat]) (IntKind.i64.wrap (n7 + 1))) none) none))) (br (decide (n7 = 2)) (br (decide (n7 = 0)) (br (decide ((l0.length + [UInt8.ofNat (IntKind.u8.wrap (shrI IntKind.i64 n12 24)).toNat, UInt8.ofNat (IntKind.u8.wrap (shrI IntKind.i64 n14 16)).toNat, UInt8.ofNat (IntKind.u8.wrap (shrI IntKind.i64 n14 8)).toNat, UInt8.ofNat (IntKind.u8.wrap n12).toNat].length) * 1 ≤ 140737488355328)) (Lq (l0 ++ [UInt8.ofNat (IntKind.u8.wrap (shrI IntKind.i64 n12 24)).toNat, UInt8.ofNat (IntKind.u8.wrap (shrI IntKind.i64 n14 16)).toNat, UInt8.ofNat (IntKind.u8.wrap (shrI IntKind.i64 n14 8)).toNat, UInt8.ofNat (IntKind.u8.wrap n12).toNat]) (IntKind.i64.wrap (n7 + 1))) none) (br (decide (n7 = 1)) (br (decide ((l0.length + [UInt8.ofNat (IntKind.u8.wrap (shrI IntKind.i64 n12 24)).toNat, UInt8.ofNat (IntKind.u8.wrap (shrI IntKind.i64 n14 16)).toNat, UInt8.ofNat (IntKind.u8.wrap (shrI IntKind.i64 n14 8)).toNat, UInt8.ofNat (IntKind.u8.wrap n13).toNat].length) * 1 ≤ 140737488355328)) (Lq (l0 ++ [UInt8.ofNat (IntKind.u8.wrap (shrI IntKind.i64 n12 24)).toNat, UInt8.ofNat (IntKind.u8.wrap (shrI IntKind.i64 n14 16)).toNat, UInt8.ofNat (IntKind.u8.wrap (shrI IntKind.i64 n14 8)).toNat, UInt8.ofNat (IntKind.u8.wrap n13).toNat]) (IntKind.i64.wrap (n7 + 1))) none) (br (decide (n7 = 2)) (br (decide ((l0.length + [UInt8.ofNat (IntKind.u8.wrap (shrI IntKind.i64 n12 24)).toNat, UInt8.ofNat (IntKind.u8.wrap (shrI IntKind.i64 n14 16)).toNat, UInt8.ofNat (IntKind.u8.wrap (shrI IntKind.i64 n14 8)).toNat, UInt8.ofNat (IntKind.u8.wrap n14).toNat].length) * 1 ≤ 140737488355328)) (Lq (l0 ++ [UInt8.ofNat (IntKind.u8.wrap (shrI IntKind.i64 n12 24)).toNat, UInt8.ofNat (IntKind.u8.wrap (shrI IntKind.i64 n14 16)).toNat, UInt8.ofNat (IntKind.u8.wrap (shrI IntKind.i64 n14 8)).toNat, UInt8.ofNat (IntKind.u8.wrap n14).toNat]) (IntKind.i64.wrap (n7 + 1))) none) none))) none))) none))) (br (decide (n7 = 1)) (br (decide (n7 = 0)) (br (decide (n7 = 0)) (br (decide (n7 = 0)) (br (decide ((l0.length + [UInt8.ofNat (IntKind.u8.wrap (shrI IntKind.i64 n13 24)).toNat, UInt8.ofNat (IntKind.u8.wrap (shrI IntKind.i64 n12 16)).toNat, UInt8.ofNat (IntKind.u8.wrap (shrI IntKind.i64 n12 8)).toNat, UInt8.ofNat (IntKind.u8.wrap n12).toNat].length) * 1 ≤ 140737488355328)) (Lq (l0 ++ [UInt8.ofNat (IntKind.u8.wrap (shrI IntKind.i64 n13 24)).toNat, UInt8.ofNat (IntKind.u8.wrap (shrI IntKind.i64 n12 16)).toNat, UInt8.ofNat (IntKind.u8.wrap (shrI IntKind.i64 n12 8)).toNat, UInt8.ofNat (IntKind.u8.wrap n12).toNat]) (IntKind.i64.wrap (n7 + 1))) none) (br (decide (n7 = 1)) (br (decide ((l0.length + [UInt8.ofNat (IntKind.u8.wrap (shrI IntKind.i64 n13 24)).toNat, UInt8.ofNat (IntKind.u8.wrap (shrI IntKind.i64 n12 16)).toNat, UInt8.ofNat (IntKind.u8.wrap (shrI IntKind.i64 n12 8)).toNat, UInt8.ofNat (IntKind.u8.wrap n13).toNat].length) * 1 ≤ 140737488355328)) (Lq (l0 ++ [UInt8.ofNat (IntKind.u8.wrap (shrI IntKind.i64 n13 24)).toNat, UInt8.ofNat (IntKind.u8.wrap (shrI IntKind.i64 n12 16)).toNat, UInt8.ofNat (IntKind.u8.wrap (shrI IntKind.i64 n12 8)).toNat, UInt8.ofNat (IntKind.u8.wrap n13).toNat]) (IntKind.i64.wrap (n7 + 1))) none) (br (decide (n7 = 2)) (br (decide ((l0.length + [UInt8.ofNat (IntKind.u8.wrap (shrI IntKind.i64 n13 24)).toNat, UInt8.ofNat (IntKind.u8.wrap (shrI IntKind.i64 n12 16)).toNat, UInt8.ofNat (IntKind.u8.wrap (shrI IntKind.i64 n12 8)).toNat, UInt8.ofNat (IntKind.u8.wrap n14).toNat].length) * 1 ≤ 140737488355328)) (Lq (l0 ++ [UInt8.ofNat (IntKind.u8.wrap (shrI IntKind.i64 n13 24)).toNat, UInt8.ofNat (IntKind.u8.wrap (shrI IntKind.i64 n12 16)).toNat, UInt8.ofNat (IntKind.u8.wrap (shrI IntKind.i64 n12 8)).toNat, UInt8.ofNat (IntKind.u8.wrap n14).toNat]) (IntKind.i64.wrap (n7 + 1))) none) none))) (br (decide (n7 = 1)) (br (decide (n7 = 0)) (br (decide ((l0.length + [UInt8.ofNat (IntKind.u8.wrap (shrI IntKind.i64 n13 24)).toNat, UInt8.ofNat (IntKind.u8.wrap (shrI IntKind.i64 n12 16)).toNat, UInt8.ofNat (IntKind.u8.wrap (shrI IntKind.i64 n13 8)).toNat, UInt8.ofNat (IntKind.u8.wrap n12).toNat].length) * 1 ≤ 140737488355328)) (Lq (l0 ++ [UInt8.ofNat (IntKind.u8.wrap (shrI IntKind.i64 n13 24)).toNat, UInt8.ofNat (IntKind.u8.wrap (shrI IntKind.i64 n12 16)).toNat, UInt8.ofNat (IntKind.u8.wrap (shrI IntKind.i64 n13 8)).toNat, UInt8.ofNat (IntKind.u8.wrap n12).toNat]) (IntKind.i64.wrap (n7 + 1))) none) (br (decide (n7 = 1)) (br (decide ((l0.length + [UInt8.ofNat (IntKind.u8.wrap (shrI IntKind.i64 n13 24)).toNat, UInt8.ofNat (IntKind.u8.wrap (shrI IntKind.i64 n12 16)).toNat, UInt8.ofNat (IntKind.u8.wrap (shrI IntKind.i64 n13 8)).toNat, UInt8.ofNat (IntKind.u8.wrap n13).toNat].length) * 1 ≤ 140737488355328)) (Lq (l0 ++ [UInt8.ofNat (IntKind.u8.wrap (shrI IntKind.i64 n13 24)).toNat, UInt8.ofNat (IntKind.u8.wrap (shrI IntKind.i64 n12 16)).toNat, UInt8.ofNat (IntKind.u8.wrap (shrI IntKind.i64 n13 8)).toNat, UInt8.ofNat (IntKind.u8.wrap n13).toNat]) (IntKind.i64.wrap (n7 + 1))) none) (br (decide (n7 = 2)) (br (decide ((l0.length + [UInt8.ofNat (IntKind.u8.wrap (shrI IntKind.i64 n13 24)).toNat, UInt8.ofNat (IntKind.u8.wrap (shrI IntKind.i64 n12 16)).toNat, UInt8.ofNat (IntKind.u8.wrap (shrI IntKind.i64 n13 8)).toNat, UInt8.ofNat (IntKind.u8.wrap n14).toNat].length) * 1 ≤ 140737488355328)) (Lq (l0 ++ [UInt8.ofNat (IntKind.u8.wrap (shrI IntKind.i64 n13 24)).toNat, UInt8.ofNat (IntKind.u8.wrap (shrI IntKind.i64 n12 16)).toNat, UInt8.ofNat (IntKind.u8.wrap (shrI IntKind.i64 n13 8)).toNat, UInt8.ofNat (IntKind.u8.wrap n14).toNat]) (IntKind.i64.wrap (n7 + 1))) none) none))) (br (decide (n7 = 2)) (br (decide (n7 = 0)) (br (decide ((l0.length + [UInt8.ofNat (IntKind.u8.wrap (shrI IntKind.i64 n13 24)).toNat, UInt8.ofNat (IntKind.u8.wrap (shrI IntKind.i64 n12 16)).toNat, UInt8.ofNat (IntKind.u8.wrap (shrI IntKind.i64 n14 8)).toNat, UInt8.ofNat (IntKind.u8.wrap n12).toNat].length) * 1 ≤ 140737488355328)) (Lq (l0 ++ [UInt8.ofNat (IntKind.u8.wrap (shrI IntKind.i64 n13 24)).toNat, UInt8.ofNat (IntKind.u8.wrap (shrI IntKind.i64 n12 16)).toNat, UInt8.ofNat (IntKind.u8.wrap (shrI IntKind.i64 n14 8)).toNat, UInt8.ofNat (IntKind.u8.wrap n12).toNat]) (IntKind.i64.wrap (n7 + 1))) none) (br (decide (n7 = 1)) (br (decide ((l0.length + [UInt8.ofNat (IntKind.u8.wrap (shrI IntKind.i64 n13 24)).toNat, UInt8.ofNat (IntKind.u8.wrap (shrI IntKind.i64 n12 16)).toNat, UInt8.ofNat (IntKind.u8.wrap (shrI IntKind.i64 n14 8)).toNat, UInt8.ofNat (IntKind.u8.wrap n13).toNat].length) * 1 ≤ 140737488355328)) (Lq (l0 ++ [UInt8.ofNat (IntKind.u8.wrap (shrI IntKind.i64 n13 24)).toNat, UInt8.ofNat (IntKind.u8.wrap (shrI IntKind.i64 n12 16)).toNat, UInt8.ofNat (IntKind.u8.wrap (shrI IntKind.i64 n14 8)).toNat, UInt8.ofNat (IntKind.u8.wrap n13).toNat]) (IntKind.i64.wrap (n7 + 1))) none) (br (decide (n7 = 2)) (br (decide ((l0.length + [UInt8.ofNat (IntKind.u8.wrap (shrI IntKind.i64 n13 24)).toNat, UInt8.ofNat (IntKind.u8.wrap (shrI IntKind.i64 n12 16)).toNat, UInt8.ofNat (IntKind.u8.wrap (shrI IntKind.i64 n14 8)).toNat, UInt8.ofNat (IntKind.u8.wrap n14).toNat].length) * 1 ≤ 140737488355328)) (Lq (l0 ++ [UInt8.ofNat (IntKind.u8.wrap (shrI IntKind.i64 n13 24)).toNat, UInt8.ofNat (IntKind.u8.wrap (shrI IntKind.i64 n12 16)).toNat, UInt8.ofNat (IntKind.u8.wrap (shrI IntKind.i64 n14 8)).toNat, UInt8.ofNat (IntKind.u8.wrap n14).toNat]) (IntKind.i64.wrap (n7 + 1))) none) none))) none))) (br (decide (n7 = 1)) (br (decide (n7 = 0)) (br (decide (n7 = 0)) (br (decide ((l0.length + [UInt8.ofNat (IntKind.u8.wrap (shrI IntKind.i64 n13 24)).toNat, UInt8.ofNat (IntKind.u8.wrap (shrI IntKind.i64 n13 16)).toNat, UInt8.ofNat (IntKind.u8.wrap (shrI IntKind.i64 n12 8)).toNat, UInt8.ofNat (IntKind.u8.wrap n12).toNat].length) * 1 ≤ 140737488355328)) (Lq (l0 ++ [UInt8.ofNat (IntKind.u8.wrap (shrI IntKind.i64 n13 24)).toNat, UInt8.ofNat (IntKind.u8.wrap (shrI IntKind.i64 n13 16)).toNat, UInt8.ofNat (IntKind.u8.wrap (shrI IntKind.i64 n12 8)).toNat, UInt8.ofNat (IntKind.u8.wrap n12).toNat]) (IntKind.i64.wrap (n7 + 1))) none) (br (decide (n7 = 1)) (br (decide ((l0.length + [UInt8.ofNat (IntKind.u8.wrap (shrI IntKind.i64 n13 24)).toNat, UInt8.ofNat (IntKind.u8.wrap (shrI IntKind.i64 n13 16)).toNat, UInt8.ofNat (IntKind.u8.wrap (shrI IntKind.i64 n12 8)).toNat, UInt8.ofNat (IntKind.u8.wrap n13).toNat].length) * 1 ≤ 140737488355328)) (Lq (l0 ++ [UInt8.ofNat (IntKind.u8.wrap (shrI IntKind.i64 n13 24)).toNat, UInt8.ofNat (IntKind.u8.wrap (shrI IntKind.i64 n13 16)).toNat, UInt8.ofNat (IntKind.u8.wrap (shrI IntKind.i64 n12 8)).toNat, UInt8.ofNat (IntKind.u8.wrap n13).toNat]) (IntKind.i64.wrap (n7 + 1))) none) (br (decide (n7 = 2)) (br (decide ((l0.length + [UInt8.ofNat (IntKind.u8.wrap (shrI IntKind.i64 n13 24)).toNat, UInt8.ofNat (IntKind.u8.wrap (shrI IntKind.i64 n13 16)).toNat, UInt8.ofNat (IntKind.u8.wrap (shrI IntKind.i64 n12 8)).toNat, UInt8.ofNat (IntKind.u8.wrap n14).toNat].length) * 1 ≤ 140737488355328)) (Lq (l0 ++ [UInt8.ofNat (IntKind.u8.wrap (shrI IntKind.i64 n13 24)).toNat, UInt8.ofNat (IntKind.u8.wrap (shrI IntKind.i64 n13 16)).toNat, UInt8.ofNat (IntKind.u8.wrap (shrI IntKind.i64 n12 8)).toNat, UInt8.ofNat (IntKind.u8.wrap n14).toNat]) (IntKind.i64.wrap (n7 + 1))) none) none))) (br (decide (n7 = 1)) (br (decide (n7 = 0)) (br (decide ((l0.length + [UInt8.ofNat (IntKind.u8.wrap (shrI IntKind.i64 n13 24)).toNat, UInt8.ofNat (IntKind.u8.wrap (shrI IntKind.i64 n13 16)).toNat, UInt8.ofNat (IntKind.u8.wrap (shrI IntKind.i64 n13 8)).toNat, UInt8.ofNat (IntKind.u8.wrap n12).toNat].length) * 1 ≤ 140737488355328)) (Lq (l0 ++ [UInt8.ofNat (IntKind.u8.wrap (shrI IntKind.i64 n13 24)).toNat, UInt8.ofNat (IntKind.u8.wrap (shrI IntKind.i64 n13 16)).toNat, UInt8.ofNat (IntKind.u8.wrap (shrI IntKind.i64 n13 8)).toNat, UInt8.ofNat (IntKind.u8.wrap n12).toNat]) (IntKind.i64.wrap (n7 + 1))) none) (br (decide (n7 = 1)) (br (decide ((l0.length + [UInt8.ofNat (IntKind.u8.wrap (shrI IntKind.i64 n13 24)).toNat, UInt8.ofNat (IntKind.u8.wrap (shrI IntKind.i64 n13 16)).toNat, UInt8.ofNat (IntKind.u8.wrap (shrI IntKind.i64 n13 8)).toNat, UInt8.ofNat (IntKind.u8.wrap n13).toNat].length) * 1 ≤ 140737488355328)) (Lq (l0 ++ [UInt8.ofNat (IntKind.u8.wrap (shrI IntKind.i64 n13 24)).toNat, UInt8.ofNat (IntKind.u8.wrap (shrI IntKind.i64 n13 16)).toNat, UInt8.ofNat (IntKind.u8.wrap (shrI IntKind.i64 n13 8)).toNat, UInt8.ofNat (IntKind.u8.wrap n13).toNat]) (IntKind.i64.wrap (n7 + 1))) none) (br (decide (n7 = 2)) (br (decide ((l0.length + [UInt8.ofNat (IntKind.u8.wrap (shrI IntKind.i64 n13 24)).toNat, UInt8.ofNat (IntKind.u8.wrap (shrI IntKind.i64 n13 16)).toNat, UInt8.ofNat (IntKind.u8.wrap (shrI IntKind.i64 n13 8)).toNat, UInt8.ofNat (IntKind.u8.wrap n14).toNat].length) * 1 ≤ 140737488355328)) (Lq (l0 ++ [UInt8.ofNat (IntKind.u8.wrap (shrI IntKind.i64 n13 24)).toNat, UInt8.ofNat (IntKind.u8.wrap (shrI IntKind.i64 n13 16)).toNat, UInt8.ofNat (IntKind.u8.wrap (shrI IntKind.i64 n13 8)).toNat, UInt8.ofNat (IntKind.u8.wrap n14).toNat]) (IntKind.i64.wrap (n7 + 1))) none) none))) (br (decide (n7 = 2)) (br (decide (n7 = 0)) (br (decide ((l0.length + [UInt8.ofNat (IntKind.u8.wrap (shrI IntKind.i64 n13 24)).toNat, UInt8.ofNat (IntKind.u8.wrap (shrI IntKind.i64 n13 16)).toNat, UInt8.ofNat (IntKind.u8.wrap (shrI IntKind.i64 n14 8)).toNat, UInt8.ofNat (IntKind.u8.wrap n12).toNat].length) * 1 ≤ 140737488355328)) (Lq (l0 ++ [UInt8.ofNat (IntKind.u8.wrap (shrI IntKind.i64 n13 24)).toNat, UInt8.ofNat (IntKind.u8.wrap (shrI IntKind.i64 n13 16)).toNat, UInt8.ofNat (IntKind.u8.wrap (shrI IntKind.i64 n14 8)).toNat, UInt8.ofNat (IntKind.u8.wrap n12).toNat]) (IntKind.i64.wrap (n7 + 1))) none) (br (decide (n7 = 1)) (br (decide ((l0.length + [UInt8.ofNat (IntKind.u8.wrap (shrI IntKind.i64 n13 24)).toNat, UInt8.ofNat (IntKind.u8.wrap (shrI IntKind.i64 n13 16)).toNat, UInt8.ofNat (IntKind.u8.wrap (shrI IntKind.i64 n14 8)).toNat, UInt8.ofNat (IntKind.u8.wrap n13).toNat].length) * 1 ≤ 140737488355328)) (Lq (l0 ++ [UInt8.ofNat (IntKind.u8.wrap (shrI IntKind.i64 n13 24)).toNat, UInt8.ofNat (IntKind.u8.wrap (shrI IntKind.i64 n13 16)).toNat, UInt8.ofNat (IntKind.u8.wrap (shrI IntKind.i64 n14 8)).toNat, UInt8.ofNat (IntKind.u8.wrap n13).toNat]) (IntKind.i64.wrap (n7 + 1))) none) (br (decide (n7 = 2)) (br (decide ((l0.length + [UInt8.ofNat (IntKind.u8.wrap (shrI IntKind.i64 n13 24)).toNat, UInt8.ofNat (IntKind.u8.wrap (shrI IntKind.i64 n13 16)).toNat, UInt8.ofNat (IntKind.u8.wrap (shrI IntKind.i64 n14 8)).toNat, UInt8.ofNat (IntKind.u8.wrap n14).toNat].length) * 1 ≤ 140737488355328)) (Lq (l0 ++ [UInt8.ofNat (IntKind.u8.wrap (shrI IntKind.i64 n13 24)).toNat, UInt8.ofNat (IntKind.u8.wrap (shrI IntKind.i64 n13 16)).toNat, UInt8.ofNat (IntKind.u8.wrap (shrI IntKind.i64 n14 8)).toNat, UInt8.ofNat (IntKind.u8.wrap n14).toNat]) (IntKind.i64.wrap (n7 + 1))) none) none))) none))) (br (decide (n7 = 2)) (br (decide (n7 = 0)) (br (decide (n7 = 0)) (br (decide ((l0.length + [UInt8.ofNat (IntKind.u8.wrap (shrI IntKind.i64 n13 24)).toNat, UInt8.ofNat (IntKind.u8.wrap (shrI IntKind.i64 n14 16)).toNat, UInt8.ofNat (IntKind.u8.wrap (shrI IntKind.i64 n12 8)).toNat, UInt8.ofNat (IntKind.u8.wrap n12).toNat].length) * 1 ≤ 140737488355328)) (Lq (l0 ++ [UInt8.ofNat (IntKind.u8.wrap (shrI IntKind.i64 n13 24)).toNat, UInt8.ofNat (IntKind.u8.wrap (shrI IntKind.i64 n14 16)).toNat, UInt8.ofNat (IntKind.u8.wrap (shrI IntKind.i64 n12 8)).toNat, UInt8.ofNat (IntKind.u8.wrap n12).toNat]) (IntKind.i64.wrap (n7 + 1))) none) (br (decide (n7 = 1)) (br (decide ((l0.length + [UInt8.ofNat (IntKind.u8.wrap (shrI IntKind.i64 n13 24)).toNat, UInt8.ofNat (IntKind.u8.wrap (shrI IntKind.i64 n14 16)).toNat, UInt8.ofNat (IntKind.u8.wrap (shrI IntKind.i64 n12 8)).toNat, UInt8.ofNat (IntKind.u8.wrap n13).toNat].length) * 1 ≤ 140737488355328)) (Lq (l0 ++ [UInt8.ofNat (IntKind.u8.wrap (shrI IntKind.i64 n13 24)).toNat, UInt8.ofNat (IntKind.u8.wrap (shrI IntKind.i64 n14 16)).toNat, UInt8.ofNat (IntKind.u8.wrap (shrI IntKind.i64 n12 8)).toNat, UInt8.ofNat (IntKind.u8.wrap n13).toNat]) (IntKind.i64.wrap (n7 + 1))) none) (br (decide (n7 = 2)) (br (decide ((l0.length + [UInt8.ofNat (IntKind.u8.wrap (shrI IntKind.i64 n13 24)).toNat, UInt8.ofNat (IntKind.u8.wrap (shrI IntKind.i64 n14 16)).toNat, UInt8.ofNat (IntKind.u8.wrap (shrI IntKind.i64 n12 8)).toNat, UInt8.ofNat (IntKind.u8.wrap n14).toNat].length) * 1 ≤ 140737488355328)) (Lq (l0 ++ [UInt8.ofNat (IntKind.u8.wrap (shrI IntKind.i64 n13 24)).toNat, UInt8.ofNat (IntKind.u8.wrap (shrI IntKind.i64 n14 16)).toNat, UInt8.ofNat (IntKind.u8.wrap (shrI IntKind.i64 n12 8)).toNat, UInt8.ofNat (IntKind.u8.wrap n14).toNat]) (IntKind.i64.wrap (n7 + 1))) none) none))) (br (decide (n7 = 1)) (br (decide (n7 = 0)) (br (decide ((l0.length + [UInt8.ofNat (IntKind.u8.wrap (shrI IntKind.i64 n13 24)).toNat, UInt8.ofNat (IntKind.u8.wrap (shrI IntKind.i64 n14 16)).toNat, UInt8.ofNat (IntKind.u8.wrap (shrI IntKind.i64 n13 8)).toNat, UInt8.ofNat (IntKind.u8.wrap n12).toNat].length) * 1 ≤ 140737488355328)) (Lq (l0 ++ [UInt8.ofNat (IntKind.u8.wrap (shrI IntKind.i64 n13 24)).toNat, UInt8.ofNat (IntKind.u8.wrap (shrI IntKind.i64 n14 16)).toNat, UInt8.ofNat (IntKind.u8.wrap (shrI IntKind.i64 n13 8)).toNat, UInt8.ofNat (IntKind.u8.wrap n12).toNat]) (IntKind.i64.wrap (n7 + 1))) none) (br (decide (n7 = 1)) (br (decide ((l0.length + [UInt8.ofNat (IntKind.u8.wrap (shrI IntKind.i64 n13 24)).toNat, UInt8.ofNat (IntKind.u8.wrap (shrI IntKind.i64 n14 16)).toNat, UInt8.ofNat (IntKind.u8.wrap (shrI IntKind.i64 n13 8)).toNat, UInt8.ofNat (IntKind.u8.wrap n13).toNat].length) * 1 ≤ 140737488355328)) (Lq (l0 ++ [UInt8.ofNat (IntKind.u8.wrap (shrI IntKind.i64 n13 24)).toNat, UInt8.ofNat (IntKind.u8.wrap (shrI IntKind.i64 n14 16)).toNat, UInt8.ofNat (IntKind.u8.wrap (shrI IntKind.i64 n13 8)).toNat, UInt8.ofNat (IntKind.u8.wrap n13).toNat]) (IntKind.i64.wrap (n7 + 1))) none) (br (decide (n7 = 2)) (br (decide ((l0.length + [UInt8.ofNat (IntKind.u8.wrap (shrI IntKind.i64 n13 24)).toNat, UInt8.ofNat (IntKind.u8.wrap (shrI IntKind.i64 n14 16)).toNat, UInt8.ofNat (IntKind.u8.wrap (shrI IntKind.i64 n13 8)).toNat, UInt8.ofNat (IntKind.u8.wrap n14).toNat].length) * 1 ≤ 140737488355328)) (Lq (l0 ++ [UInt8.ofNat (IntKind.u8.wrap (shrI IntKind.i64 n13 24)).toNat, UInt8.ofNat (IntKind.u8.wrap (shrI IntKind.i64 n14 16)).toNat, UInt8.ofNat (IntKind.u8.wrap (shrI IntKind.i64 n13 8)).toNat, UInt8.ofNat (IntKind.u8.wrap n14).toNat]) (IntKind.i64.wrap (n7 + 1))) none) none))) (br (decide (n7 = 2)) (br (decide (n7 = 0)) (br (decide ((l0.length + [UInt8.ofNat (IntKind.u8.wrap (shrI IntKind.i64 n13 24)).toNat, UInt8.ofNat (IntKind.u8.wrap (shrI IntKind.i64 n14 16)).toNat, UInt8.ofNat (IntKind.u8.wrap (shrI IntKind.i64 n14 8)).toNat, UInt8.ofNat (IntKind.u8.wrap n12).toNat].length) * 1 ≤ 140737488355328)) (Lq (l0 ++ [UInt8.ofNat (IntKind.u8.wrap (shrI IntKind.i64 n13 24)).toNat, UInt8.ofNat (IntKind.u8.wrap (shrI IntKind.i64 n14 16)).toNat, UInt8.ofNat (IntKind.u8.wrap (shrI IntKind.i64 n14 8)).toNat, UInt8.ofNat (IntKind.u8.wrap n12).toNat]) (IntKind.i64.wrap (n7 + 1))) none) (br (decide (n7 = 1)) (br (decide ((l0.length + [UInt8.ofNat (IntKind.u8.wrap (shrI IntKind.i64 n13 24)).toNat, UInt8.ofNat (IntKind.u8.wrap (shrI IntKind.i64 n14 16)).toNat, UInt8.ofNat (IntKind.u8.wrap (shrI IntKind.i64 n14 8)).toNat, UInt8.ofNat (IntKind.u8.wrap n13).toNat].length) * 1 ≤ 140737488355328)) (Lq (l0 ++ [UInt8.ofNat (IntKind.u8.wrap (shrI IntKind.i64 n13 24)).toNat, UInt8.ofNat (IntKind.u8.wrap (shrI IntKind.i64 n14 16)).toNat, UInt8.ofNat (IntKind.u8.wrap (shrI IntKind.i64 n14 8)).toNat, UInt8.ofNat (IntKind.u8.wrap n13).toNat]) (IntKind.i64.wrap (n7 + 1))) none) (br (decide (n7 = 2)) (br (decide ((l0.length + [UInt8.ofNat (IntKind.u8.wrap (shrI IntKind.i64 n13 24)).toNat, UInt8.ofNat (IntKind.u8.wrap (shrI IntKind.i64 n14 16)).toNat, UInt8.ofNat (IntKind.u8.wrap (shrI IntKind.i64 n14 8)).toNat, UInt8.ofNat (IntKind.u8.wrap n14).toNat].length) * 1 ≤ 140737488355328)) (Lq (l0 ++ [UInt8.ofNat (IntKind.u8.wrap (shrI IntKind.i64 n13 24)).toNat, UInt8.ofNat (IntKind.u8.wrap (shrI IntKind.i64 n14 16)).toNat, UInt8.ofNat (IntKind.u8.wrap (shrI IntKind.i64 n14 8)).toNat, UInt8.ofNat (IntKind.u8.wrap n14).toNat]) (IntKind.i64.wrap (n7 + 1))) none) none))) none))) none))) (br (decide (n7 = 2)) (br (decide (n7 = 0)) (br (decide (n7 = 0)) (br (decide (n7 = 0)) (br (decide ((l0.length + [UInt8.ofNat (IntKind.u8.wrap (shrI IntKind.i64 n14 24)).toNat, UInt8.ofNat (IntKind.u8.wrap (shrI IntKind.i64 n12 16)).toNat, UInt8.ofNat (IntKind.u8.wrap (shrI IntKind.i64 n12 8)).toNat, UInt8.ofNat (IntKind.u8.wrap n12).toNat].length) * 1 ≤ 140737488355328)) (Lq (l0 ++ [UInt8.ofNat (IntKind.u8.wrap (shrI IntKind.i64 n14 24)).toNat, UInt8.ofNat (IntKind.u8.wrap (shrI IntKind.i64 n12 16)).toNat, UInt8.ofNat (IntKind.u8.wrap (shrI IntKind.i64 n12 8)).toNat, UInt8.ofNat (IntKind.u8.wrap n12).toNat]) (IntKind.i64.wrap (n7 + 1))) none) (br (decide (n7 = 1)) (br (decide ((l0.length + [UInt8.ofNat (IntKind.u8.wrap (shrI IntKind.i64 n14 24)).toNat, UInt8.ofNat (IntKind.u8.wrap (shrI IntKind.i64 n12 16)).toNat, UInt8.ofNat (IntKind.u8.wrap (shrI IntKind.i64 n12 8)).toNat, UInt8.ofNat (IntKind.u8.wrap n13).toNat].length) * 1 ≤ 140737488355328)) (Lq (l0 ++ [UInt8.ofNat (IntKind.u8.wrap (shrI IntKind.i64 n14 24)).toNat, UInt8.ofNat (IntKind.u8.wrap (shrI IntKind.i64 n12 16)).toNat, UInt8.ofNat (IntKind.u8.wrap (shrI IntKind.i64 n12 8)).toNat, UInt8.ofNat (IntKind.u8.wrap n13).toNat]) (IntKind.i64.wrap (n7 + 1))) none) (br (decide (n7 = 2)) (br (decide ((l0.length + [UInt8.ofNat (IntKind.u8.wrap (shrI IntKind.i64 n14 24)).toNat, UInt8.ofNat (IntKind.u8.wrap (shrI IntKind.i64 n12 16)).toNat, UInt8.ofNat (IntKind.u8.wrap (shrI IntKind.i64 n12 8)).toNat, UInt8.ofNat (IntKind.u8.wrap n14).toNat].length) * 1 ≤ 140737488355328)) (Lq (l0 ++ [UInt8.ofNat (IntKind.u8.wrap (shrI IntKind.i64 n14 24)).toNat, UInt8.ofNat (IntKind.u8.wrap (shrI IntKind.i64 n12 16)).toNat, UInt8.ofNat (IntKind.u8.wrap (shrI IntKind.i64 n12 8)).toNat, UInt8.ofNat (IntKind.u8.wrap n14).toNat]) (IntKind.i64.wrap (n7 + 1))) none) none))) (br (decide (n7 = 1)) (br (decide (n7 = 0)) (br (decide ((l0.length + [UInt8.ofNat (IntKind.u8.wrap (shrI IntKind.i64 n14 24)).toNat, UInt8.ofNat (IntKind.u8.wrap (shrI IntKind.i64 n12 16)).toNat, UInt8.ofNat (IntKind.u8.wrap (shrI IntKind.i64 n13 8)).toNat, UInt8.ofNat (IntKind.u8.wrap n12).toNat].length) * 1 ≤ 140737488355328)) (Lq (l0 ++ [UInt8.ofNat (IntKind.u8.wrap (shrI IntKind.i64 n14 24)).toNat, UInt8.ofNat (IntKind.u8.wrap (shrI IntKind.i64 n12 16)).toNat, UInt8.ofNat (IntKind.u8.wrap (shrI IntKind.i64 n13 8)).toNat, UInt8.ofNat (IntKind.u8.wrap n12).toNat]) (IntKind.i64.wrap (n7 + 1))) none) (br (decide (n7 = 1)) (br (decide ((l0.length + [UInt8.ofNat (IntKind.u8.wrap (shrI IntKind.i64 n14 24)).toNat, UInt8.ofNat (IntKind.u8.wrap (shrI IntKind.i64 n12 16)).toNat, UInt8.ofNat (IntKind.u8.wrap (shrI IntKind.i64 n13 8)).toNat, UInt8.ofNat (IntKind.u8.wrap n13).toNat].length) * 1 ≤ 140737488355328)) (Lq (l0 ++ [UInt8.ofNat (IntKind.u8.wrap (shrI IntKind.i64 n14 24)).toNat, UInt8.ofNat (IntKind.u8.wrap (shrI IntKind.i64 n12 16)).toNat, UInt8.ofNat (IntKind.u8.wrap (shrI IntKind.i64 n13 8)).toNat, UInt8.ofNat (IntKind.u8.wrap n13).toNat]) (IntKind.i64.wrap (n7 + 1))) none) (br (decide (n7 = 2)) (br (decide ((l0.length + [UInt8.ofNat (IntKind.u8.wrap (shrI IntKind.i64 n14 24)).toNat, UInt8.ofNat (IntKind.u8.wrap (shrI IntKind.i64 n12 16)).toNat, UInt8.ofNat (IntKind.u8.wrap (shrI IntKind.i64 n13 8)).toNat, UInt8.ofNat (IntKind.u8.wrap n14).toNat].length) * 1 ≤ 140737488355328)) (Lq (l0 ++ [UInt8.ofNat (IntKind.u8.wrap (shrI IntKind.i64 n14 24)).toNat, UInt8.ofNat (IntKind.u8.wrap (shrI IntKind.i64 n12 16)).toNat, UInt8.ofNat (IntKind.u8.wrap (shrI IntKind.i64 n13 8)).toNat, UInt8.ofNat (IntKind.u8.wrap n14).toNat]) (IntKind.i64.wrap (n7 + 1))) none) none))) (br (decide (n7 = 2)) (br (decide (n7 = 0)) (br (decide ((l0.length + [UInt8.ofNat (IntKind.u8.wrap (shrI IntKind.i64 n14 24)).toNat, UInt8.ofNat (IntKind.u8.wrap (shrI IntKind.i64 n12 16)).toNat, UInt8.ofNat (IntKind.u8.wrap (shrI IntKind.i64 n14 8)).toNat, UInt8.ofNat (IntKind.u8.wrap n12).toNat].length) * 1 ≤ 140737488355328)) (Lq (l0 ++ [UInt8.ofNat (IntKind.u8.wrap (shrI IntKind.i64 n14 24)).toNat, UInt8.ofNat (IntKind.u8.wrap (shrI IntKind.i64 n12 16)).toNat, UInt8.ofNat (IntKind.u8.wrap (shrI IntKind.i64 n14 8)).toNat, UInt8.ofNat (IntKind.u8.wrap n12).toNat]) (IntKind.i64.wrap (n7 + 1))) none) (br (decide (n7 = 1)) (br (decide ((l0.length + [UInt8.ofNat (IntKind.u8.wrap (shrI IntKind.i64 n14 24)).toNat, UInt8.ofNat (IntKind.u8.wrap (shrI IntKind.i64 n12 16)).toNat, UInt8.ofNat (IntKind.u8.wrap (shrI IntKind.i64 n14 8)).toNat, UInt8.ofNat (IntKind.u8.wrap n13).toNat].length) * 1 ≤ 140737488355328)) (Lq (l0 ++ [UInt8.ofNat (IntKind.u8.wrap (shrI IntKind.i64 n14 24)).toNat, UInt8.ofNat (IntKind.u8.wrap (shrI IntKind.i64 n12 16)).toNat, UInt8.ofNat (IntKind.u8.wrap (shrI IntKind.i64 n14 8)).toNat, UInt8.ofNat (IntKind.u8.wrap n13).toNat]) (IntKind.i64.wrap (n7 + 1))) none) (br (decide (n7 = 2)) (br (decide ((l0.length + [UInt8.ofNat (IntKind.u8.wrap (shrI IntKind.i64 n14 24)).toNat, UInt8.ofNat (IntKind.u8.wrap (shrI IntKind.i64 n12 16)).toNat, UInt8.ofNat (IntKind.u8.wrap (shrI IntKind.i64 n14 8)).toNat, UInt8.ofNat (IntKind.u8.wrap n14).toNat].length) * 1 ≤ 140737488355328)) (Lq (l0 ++ [UInt8.ofNat (IntKind.u8.wrap (shrI IntKind.i64 n14 24)).toNat, UInt8.ofNat (IntKind.u8.wrap (shrI IntKind.i64 n12 16)).toNat, UInt8.ofNat (IntKind.u8.wrap (shrI IntKind.i64 n14 8)).toNat, UInt8.ofNat (IntKind.u8.wrap n14).toNat]) (IntKind.i64.wrap (n7 + 1))) none) none))) none))) (br (decide (n7 = 1)) (br (decide (n7 = 0)) (br (decide (n7 = 0)) (br (decide ((l0.length + [UInt8.ofNat (IntKind.u8.wrap (shrI IntKind.i64 n14 24)).toNat, UInt8.ofNat (IntKind.u8.wrap (shrI IntKind.i64 n13 16)).toNat, UInt8.ofNat (IntKind.u8.wrap (shrI IntKind.i64 n12 8)).toNat, UInt8.ofNat (IntKind.u8.wrap n12).toNat].length) * 1 ≤ 140737488355328)) (Lq (l0 ++ [UInt8.ofNat (IntKind.u8.wrap (shrI IntKind.i64 n14 24)).toNat, UInt8.ofNat (IntKind.u8.wrap (shrI IntKind.i64 n13 16)).toNat, UInt8.ofNat (IntKind.u8.wrap (shrI IntKind.i64 n12 8)).toNat, UInt8.ofNat (IntKind.u8.wrap n12).toNat]) (IntKind.i64.wrap (n7 + 1))) none) (br (decide (n7 = 1)) (br (decide ((l0.length + [UInt8.ofNat (IntKind.u8.wrap (shrI IntKind.i64 n14 24)).toNat, UInt8.ofNat (IntKind.u8.wrap (shrI IntKind.i64 n13 16)).toNat, UInt8.ofNat (IntKind.u8.wrap (shrI IntKind.i64 n12 8)).toNat, UInt8.ofNat (IntKind.u8.wrap n13).toNat].length) * 1 ≤ 140737488355328)) (Lq (l0 ++ [UInt8.ofNat (IntKind.u8.wrap (shrI IntKind.i64 n14 24)).toNat, UInt8.ofNat (IntKind.u8.wrap (shrI IntKind.i64 n13 16)).toNat, UInt8.ofNat (IntKind.u8.wrap (shrI IntKind.i64 n12 8)).toNat, UInt8.ofNat (IntKind.u8.wrap n13).toNat]) (IntKind.i64.wrap (n7 + 1))) none) (br (decide (n7 = 2)) (br (decide ((l0.length + [UInt8.ofNat (IntKind.u8.wrap (shrI IntKind.i64 n14 24)).toNat, UInt8.ofNat (IntKind.u8.wrap (shrI IntKind.i64 n13 16)).toNat, UInt8.ofNat (IntKind.u8.wrap (shrI IntKind.i64 n12 8)).toNat, UInt8.ofNat (IntKind.u8.wrap n14).toNat].length) * 1 ≤ 140737488355328)) (Lq (l0 ++ [UInt8.ofNat (IntKind.u8.wrap (shrI IntKind.i64 n14 24)).toNat, UInt8.ofNat (IntKind.u8.wrap (shrI IntKind.i64 n13 16)).toNat, UInt8.ofNat (IntKind.u8.wrap (shrI IntKind.i64 n12 8)).toNat, UInt8.ofNat (IntKind.u8.wrap n14).toNat]) (IntKind.i64.wrap (n7 + 1))) none) none))) (br (decide (n7 = 1)) (br (decide (n7 = 0)) (br (decide ((l0.length + [UInt8.ofNat (IntKind.u8.wrap (shrI IntKind.i64 n14 24)).toNat, UInt8.ofNat (IntKind.u8.wrap (shrI IntKind.i64 n13 16)).toNat, UInt8.ofNat (IntKind.u8.wrap (shrI IntKind.i64 n13 8)).toNat, UInt8.ofNat (IntKind.u8.wrap n12).toNat].length) * 1 ≤ 140737488355328)) (Lq (l0 ++ [UInt8.ofNat (IntKind.u8.wrap (shrI IntKind.i64 n14 24)).toNat, UInt8.ofNat (IntKind.u8.wrap (shrI IntKind.i64 n13 16)).toNat, UInt8.ofNat (IntKind.u8.wrap (shrI IntKind.i64 n13 8)).toNat, UInt8.ofNat (IntKind.u8.wrap n12).toNat]) (IntKind.i64.wrap (n7 + 1))) none) (br (decide (n7 = 1)) (br (decide ((l0.length + [UInt8.ofNat (IntKind.u8.wrap (shrI IntKind.i64 n14 24)).toNat, UInt8.ofNat (IntKind.u8.wrap (shrI IntKind.i64 n13 16)).toNat, UInt8.ofNat (IntKind.u8.wrap (shrI IntKind.i64 n13 8)).toNat, UInt8.ofNat (IntKind.u8.wrap n13).toNat].length) * 1 ≤ 140737488355328)) (Lq (l0 ++ [UInt8.ofNat (IntKind.u8.wrap (shrI IntKind.i64 n14 24)).toNat, UInt8.ofNat (IntKind.u8.wrap (shrI IntKind.i64 n13 16)).toNat, UInt8.ofNat (IntKind.u8.wrap (shrI IntKind.i64 n13 8)).toNat, UInt8.ofNat (IntKind.u8.wrap n13).toNat]) (IntKind.i64.wrap (n7 + 1))) none) (br (decide (n7 = 2)) (br (decide ((l0.length + [UInt8.ofNat (IntKind.u8.wrap (shrI IntKind.i64 n14 24)).toNat, UInt8.ofNat (IntKind.u8.wrap (shrI IntKind.i64 n13 16)).toNat, UInt8.ofNat (IntKind.u8.wrap (shrI IntKind.i64 n13 8)).toNat, UInt8.ofNat (IntKind.u8.wrap n14).toNat].length) * 1 ≤ 140737488355328)) (Lq (l0 ++ [UInt8.ofNat (IntKind.u8.wrap (shrI IntKind.i64 n14 24)).toNat, UInt8.ofNat (IntKind.u8.wrap (shrI IntKind.i64 n13 16)).toNat, UInt8.ofNat (IntKind.u8.wrap (shrI IntKind.i64 n13 8)).toNat, UInt8.ofNat (IntKind.u8.wrap n14).toNat]) (IntKind.i64.wrap (n7 + 1))) none) none))) (br (decide (n7 = 2)) (br (decide (n7 = 0)) (br (decide ((l0.length + [UInt8.ofNat (IntKind.u8.wrap (shrI IntKind.i64 n14 24)).toNat, UInt8.ofNat (IntKind.u8.wrap (shrI IntKind.i64 n13 16)).toNat, UInt8.ofNat (IntKind.u8.wrap (shrI IntKind.i64 n14 8)).toNat, UInt8.ofNat (IntKind.u8.wrap n12).toNat].length) * 1 ≤ 140737488355328)) (Lq (l0 ++ [UInt8.ofNat (IntKind.u8.wrap (shrI IntKind.i64 n14 24)).toNat, UInt8.ofNat (IntKind.u8.wrap (shrI IntKind.i64 n13 16)).toNat, UInt8.ofNat (IntKind.u8.wrap (shrI IntKind.i64 n14 8)).toNat, UInt8.ofNat (IntKind.u8.wrap n12).toNat]) (IntKind.i64.wrap (n7 + 1))) none) (br (decide (n7 = 1)) (br (decide ((l0.length + [UInt8.ofNat (IntKind.u8.wrap (shrI IntKind.i64 n14 24)).toNat, UInt8.ofNat (IntKind.u8.wrap (shrI IntKind.i64 n13 16)).toNat, UInt8.ofNat (IntKind.u8.wrap (shrI IntKind.i64 n14 8)).toNat, UInt8.ofNat (IntKind.u8.wrap n13).toNat].length) * 1 ≤ 140737488355328)) (Lq (l0 ++ [UInt8.ofNat (IntKind.u8.wrap (shrI IntKind.i64 n14 24)).toNat, UInt8.ofNat (IntKind.u8.wrap (shrI IntKind.i64 n13 16)).toNat, UInt8.ofNat (IntKind.u8.wrap (shrI IntKind.i64 n14 8)).toNat, UInt8.ofNat (IntKind.u8.wrap n13).toNat]) (IntKind.i64.wrap (n7 + 1))) none) (br (decide (n7 = 2)) (br (decide ((l0.length + [UInt8.ofNat (IntKind.u8.wrap (shrI IntKind.i64 n14 24)).toNat, UInt8.ofNat (IntKind.u8.wrap (shrI IntKind.i64 n13 16)).toNat, UInt8.ofNat (IntKind.u8.wrap (shrI IntKind.i64 n14 8)).toNat, UInt8.ofNat (IntKind.u8.wrap n14).toNat].length) * 1 ≤ 140737488355328)) (Lq (l0 ++ [UInt8.ofNat (IntKind.u8.wrap (shrI IntKind.i64 n14 24)).toNat, UInt8.ofNat (IntKind.u8.wrap (shrI IntKind.i64 n13 16)).toNat, UInt8.ofNat (IntKind.u8.wrap (shrI IntKind.i64 n14 8)).toNat, UInt8.ofNat (IntKind.u8.wrap n14).toNat]) (IntKind.i64.wrap (n7 + 1))) none) none))) none))) (br (decide (n7 = 2)) (br (decide (n7 = 0)) (br (decide (n7 = 0)) (br (decide ((l0.length + [UInt8.ofNat (IntKind.u8.wrap (shrI IntKind.i64 n14 24)).toNat, UInt8.ofNat (IntKind.u8.wrap (shrI IntKind.i64 n14 16)).toNat, UInt8.ofNat (IntKind.u8.wrap (shrI IntKind.i64 n12 8)).toNat, UInt8.ofNat (IntKind.u8.wrap n12).toNat].length) * 1 ≤ 140737488355328)) (Lq (l0 ++ [UInt8.ofNat (IntKind.u8.wrap (shrI IntKind.i64 n14 24)).toNat, UInt8.ofNat (IntKind.u8.wrap (shrI IntKind.i64 n14 16)).toNat, UInt8.ofNat (IntKind.u8.wrap (shrI IntKind.i64 n12 8)).toNat, UInt8.ofNat (IntKind.u8.wrap n12).toNat]) (IntKind.i64.wrap (n7 + 1))) none) (br (decide (n7 = 1)) (br (decide ((l0.length + [UInt8.ofNat (IntKind.u8.wrap (shrI IntKind.i64 n14 24)).toNat, UInt8.ofNat (IntKind.u8.wrap (shrI IntKind.i64 n14 16)).toNat, UInt8.ofNat (IntKind.u8.wrap (shrI IntKind.i64 n12 8)).toNat, UInt8.ofNat (IntKind.u8.wrap n13).toNat].length) * 1 ≤ 140737488355328)) (Lq (l0 ++ [UInt8.ofNat (IntKind.u8.wrap (shrI IntKind.i64 n14 24)).toNat, UInt8.ofNat (IntKind.u8.wrap (shrI IntKind.i64 n14 16)).toNat, UInt8.ofNat (IntKind.u8.wrap (shrI IntKind.i64 n12 8)).toNat, UInt8.ofNat (IntKind.u8.wrap n13).toNat]) (IntKind.i64.wrap (n7 + 1))) none) (br (decide (n7 = 2)) (br (decide ((l0.length + [UInt8.ofNat (IntKind.u8.wrap (shrI IntKind.i64 n14 24)).toNat, UInt8.ofNat (IntKind.u8.wrap (shrI IntKind.i64 n14 16)).toNat, UInt8.ofNat (IntKind.u8.wrap (shrI IntKind.i64 n12 8)).toNat, UInt8.ofNat (IntKind.u8.wrap n14).toNat].length) * 1 ≤ 140737488355328)) (Lq (l0 ++ [UInt8.ofNat (IntKind.u8.wrap (shrI IntKind.i64 n14 24)).toNat, UInt8.ofNat (IntKind.u8.wrap (shrI IntKind.i64 n14 16)).toNat, UInt8.ofNat (IntKind.u8.wrap (shrI IntKind.i64 n12 8)).toNat, UInt8.ofNat (IntKind.u8.wrap n14).toNat]) (IntKind.i64.wrap (n7 + 1))) none) none))) (br (decide (n7 = 1)) (br (decide (n7 = 0)) (br (decide ((l0.length + [UInt8.ofNat (IntKind.u8.wrap (shrI IntKind.i64 n14 24)).toNat, UInt8.ofNat (IntKind.u8.wrap (shrI IntKind.i64 n14 16)).toNat, UInt8.ofNat (IntKind.u8.wrap (shrI IntKind.i64 n13 8)).toNat, UInt8.ofNat (IntKind.u8.wrap n12).toNat].length) * 1 ≤ 140737488355328)) (Lq (l0 ++ [UInt8.ofNat (IntKind.u8.wrap (shrI IntKind.i64 n14 24)).toNat, UInt8.ofNat (IntKind.u8.wrap (shrI IntKind.i64 n14 16)).toNat, UInt8.ofNat (IntKind.u8.wrap (shrI IntKind.i64 n13 8)).toNat, UInt8.ofNat (IntKind.u8.wrap n12).toNat]) (IntKind.i64.wrap (n7 + 1))) none) (br (decide (n7 = 1)) (br (decide ((l0.length + [UInt8.ofNat (IntKind.u8.wrap (shrI IntKind.i64 n14 24)).toNat, UInt8.ofNat (IntKind.u8.wrap (shrI IntKind.i64 n14 16)).toNat, UInt8.ofNat (IntKind.u8.wrap (shrI IntKind.i64 n13 8)).toNat, UInt8.ofNat (IntKind.u8.wrap n13).toNat].length) * 1 ≤ 140737488355328)) (Lq (l0 ++ [UInt8.ofNat (IntKind.u8.wrap (shrI IntKind.i64 n14 24)).toNat, UInt8.ofNat (IntKind.u8.wrap (shrI IntKind.i64 n14 16)).toNat, UInt8.ofNat (IntKind.u8.wrap (shrI IntKind.i64 n13 8)).toNat, UInt8.ofNat (IntKind.u8.wrap n13).toNat]) (IntKind.i64.wrap (n7 + 1))) none) (br (decide (n7 = 2)) (br (decide ((l0.length + [UInt8.ofNat (IntKind.u8.wrap (shrI IntKind.i64 n14 24)).toNat, UInt8.ofNat (IntKind.u8.wrap (shrI IntKind.i64 n14 16)).toNat, UInt8.ofNat (IntKind.u8.wrap (shrI IntKind.i64 n13 8)).toNat, UInt8.ofNat (IntKind.u8.wrap n14).toNat].length) * 1 ≤ 140737488355328)) (Lq (l0 ++ [UInt8.ofNat (IntKind.u8.wrap (shrI IntKind.i64 n14 24)).toNat, UInt8.ofNat (IntKind.u8.wrap (shrI IntKind.i64 n14 16)).toNat, UInt8.ofNat (IntKind.u8.wrap (shrI IntKind.i64 n13 8)).toNat, UInt8.ofNat (IntKind.u8.wrap n14).toNat]) (IntKind.i64.wrap (n7 + 1))) none) none))) (br (decide (n7 = 2)) (br (decide (n7 = 0)) (br (decide ((l0.length + [UInt8.ofNat (IntKind.u8.wrap (shrI IntKind.i64 n14 24)).toNat, UInt8.ofNat (IntKind.u8.wrap (shrI IntKind.i64 n14 16)).toNat, UInt8.ofNat (IntKind.u8.wrap (shrI IntKind.i64 n14 8)).toNat, UInt8.ofNat (IntKind.u8.wrap n12).toNat].length) * 1 ≤ 140737488355328)) (Lq (l0 ++ [UInt8.ofNat (IntKind.u8.wrap (shrI IntKind.i64 n14 24)).toNat, UInt8.ofNat (IntKind.u8.wrap (shrI IntKind.i64 n14 16)).toNat, UInt8.ofNat (IntKind.u8.wrap (shrI IntKind.i64 n14 8)).toNat, UInt8.ofNat (IntKind.u8.wrap n12).toNat]) (IntKind.i64.wrap (n7 + 1))) none) (br (decide (n7 = 1)) (br (decide ((l0.length + [UInt8.ofNat (IntKind.u8.wrap (shrI IntKind.i64 n14 24)).toNat, UInt8.ofNat (IntKind.u8.wrap (shrI IntKind.i64 n14 16)).toNat, UInt8.ofNat (IntKind.u8.wrap (shrI IntKind.i64 n14 8)).toNat, UInt8.ofNat (IntKind.u8.wrap n13).toNat].length) * 1 ≤ 140737488355328)) (Lq (l0 ++ [UInt8.ofNat (IntKind.u8.wrap (shrI IntKind.i64 n14 24)).toNat, UInt8.ofNat (IntKind.u8.wrap (shrI IntKind.i64 n14 16)).toNat, UInt8.ofNat (IntKind.u8.wrap (shrI IntKind.i64 n14 8)).toNat, UInt8.ofNat (IntKind.u8.wrap n13).toNat]) (IntKind.i64.wrap (n7 + 1))) none) (br (decide (n7 = 2)) (br (decide ((l0.length + [UInt8.ofNat (IntKind.u8.wrap (shrI IntKind.i64 n14 24)).toNat, UInt8.ofNat (IntKind.u8.wrap (shrI IntKind.i64 n14 16)).toNat, UInt8.ofNat (IntKind.u8.wrap (shrI IntKind.i64 n14 8)).toNat, UInt8.ofNat (IntKind.u8.wrap n14).toNat].length) * 1 ≤ 140737488355328)) (Lq (l0 ++ [UInt8.ofNat (IntKind.u8.wrap (shrI IntKind.i64 n14 24)).toNat, UInt8.ofNat (IntKind.u8.wrap (shrI IntKind.i64 n14 16)).toNat, UInt8.ofNat (IntKind.u8.wrap (shrI IntKind.i64 n14 8)).toNat, UInt8.ofNat (IntKind.u8.wrap n14).toNat]) (IntKind.i64.wrap (n7 + 1))) none) none))) none))) none))) none))) (br (decide (n7 = 0)) (br (decide ((l0.length + [UInt8.ofNat (IntKind.u8.wrap n12).toNat].length) * 1 ≤ 140737488355328)) (Lq (l0 ++ [UInt8.ofNat (IntKind.u8.wrap n12).toNat]) (IntKind.i64.wrap (n7 + 1))) none) (br (decide (n7 = 1)) (br (decide ((l0.length + [UInt8.ofNat (IntKind.u8.wrap n13).toNat].length) * 1 ≤ 140737488355328)) (Lq (l0 ++ [UInt8.ofNat (IntKind.u8.wrap n13).toNat]) (IntKind.i64.wrap (n7 + 1))) none) (br (decide (n7 = 2)) (br (decide ((l0.length + [UInt8.ofNat (IntKind.u8.wrap n14).toNat].length) * 1 ≤ 140737488355328)) (Lq (l0 ++ [UInt8.ofNat (IntKind.u8.wrap n14).toNat]) (IntKind.i64.wrap (n7 + 1))) none) none))))) none))) (K0 l0)
noncomputable def S_cEncode_13 {R : Type} (N : Nat) (vs1 : List V) (n2 : Int) (n3 : Int) (n4 : Int) (n5 : Int) (n6 : Int) (n8 : Int) (n9 : Int) (n10 : Int) (n11 : Int) (n12 : Int) (n13 : Int) (n14 : Int) : Nat → List UInt8 → Int → (List UInt8 → Option R) → Option R | 0, _, _, _ => none | t + 1, l0, n7, K0 => F_cEncode_13 N vs1 n2 n3 n4 n5 n6 n8 n9 n10 n11 n12 n13 n14 (fun l0 n7 => S_cEncode_13 N vs1 n2 n3 n4 n5 n6 n8 n9 n10 n11 n12 n13 n14 t l0 n7 K0) K0 l0 n7
noncomputable def l_cEncode_13 {R : Type} (N : Nat) (ds : List D) (m : Mem) (K : Ex → List D → Mem → Option R) : Option R :=
  match ds, m with
  | [(.v (.bytes l0) (.own (.slot 4) 5)), (.ptr 0 6 0), (.ptr 0 8 0), (.v (.sl 23 vs1) .no), (.v (.int .i64 n2) .no), (.v (.int .i64 n3) .no), (.agg [(.v (.int .i64 n4) .no), (.v (.int .i64 n5) .no), (.v (.int .i64 n6) .no)]), (.v (.int .i64 n7) .no)], [[(6, ⟨23, [(.v (.int .i64 n8) .no), (.v (.int .i64 n9) .no), (.v (.int .i64 n10) .no), (.v (.int .i64 n11) .no)]⟩), (8, ⟨57, [(.v (.int .i64 n12) .no), (.v (.int .i64 n13) .no), (.v (.int .i64 n14) .no)]⟩)]] => S_cEncode_13 N vs1 n2 n3 n4 n5 n6 n8 n9 n10 n11 n12 n13 n14 N l0 n7 (fun a0 => K (.exit 2) [(.v (.bytes a0) (.own (.slot 4) 5)), (.ptr 0 6 0), (.ptr 0 8 0), (.v (.sl 23 vs1) .no), (.v (.int .i64 n2) .no), (.v (.int .i64 n3) .no)] [[(6, ⟨23, [(.v (.int .i64 n8) .no), (.v (.int .i64 n9) .no), (.v (.int .i64 n10) .no), (.v (.int .i64 n11) .no)]⟩), (8, ⟨57, [(.v (.int .i64 n12) .no), (.v (.int .i64 n13) .no), (.v (.int .i64 n14) .no)]⟩)]])
  | _, _ => none
noncomputable def F_cEncode_5 {R : Type} (N : Nat) (vs1 : List V) (n2 : Int) (Lq : List UInt8 → Int → Option R) (K0 : List UInt8 → Int → List UInt8 → Option R) (K1 : List UInt8 → Option R) (l0 : List UInt8) (n3 : Int) : Option R := br (decide (n3 < n2)) (br (decide (0 ≤ n3) && decide (n3 < (↑vs1.length : Int))) (at? vs1 n3.toNat fun x0 => x0.unAgg fun l1 => unCons l1 fun x2 l3 => V.unInt IntKind.i64 x2 fun n4 => unCons l3 fun x5 l6 => V.unInt IntKind.i64 x5 fun n7 => unCons l6 fun x8 l9 => V.unInt IntKind.i64 x8 fun n10 => unCons l9 fun x11 l12 => V.unInt IntKind.i64 x11 fun n13 => unNil l12 (bnd1 (s_cCheck N n4 n7 n10 n13) fun n14 => br (!decide (n14 = 0)) (K0 [] n14 l0) (br (decide ((l0.length + [UInt8.ofNat (IntKind.u8.wrap n4).toNat].length) * 1 ≤ 140737488355328)) (bnd3 (s_operands N n4 n7 n10 n13) fun n15 n16 n17 => bnd3 (s_formOf N n4) fun n18 n19 n20 => S_cEncode_13 N vs1 n2 n3 n18 n19 n20 n4 n7 n10 n13 n15 n16 n17 N (l0 ++ [UInt8.ofNat (IntKind.u8.wrap n4).toNat]) 0 fun l21 => Lq l21 (IntKind.i64.wrap (n3 + 1))) none))) none) (K1 l0)
noncomputable def S_cEncode_5 {R : Type} (N : Nat) (vs1 : List V) (n2 : Int) : Nat → List UInt8 → Int → (List UInt8 → Int → List UInt8 → Option R) → (List UInt8 → Option R) → Option R | 0, _, _, _, _ => none | t + 1, l0, n3, K0, K1 => F_cEncode_5 N vs1 n2 (fun l0 n3 => S_cEncode_5 N vs1 n2 t l0 n3 K0 K1) K0 K1 l0 n3
noncomputable def l_cEncode_5 {R : Type} (N : Nat) (ds : List D) (m : Mem) (K : Ex → List D → Mem → Option R) : Option R :=
  match ds, m with
  | [(.v (.bytes l0) (.own (.slot 4) 5)), (.v (.sl 23 vs1) .no), (.v (.int .i64 n2) .no), (.v (.int .i64 n3) .no)], [[]] => S_cEncode_5 N vs1 n2 N l0 n3 (fun a0 a1 a2 => K .ret [(.v (.bytes a0) (.own (.slot 2) 5)), (.v (.int .i64 a1) .no), (.v (.bytes a2) (.own (.slot 4) 5))] [[]]) (fun a0 => K (.exit 0) [.any, .any, (.v (.bytes a0) (.own (.slot 4) 5))] [[]])
  | _, _ => none
noncomputable def s_cEncode (N : Nat) (x0 : List V) : Option (List UInt8 × Int) := br (decide (256 < (↑x0.length : Int))) (some ([], 3)) (S_cEncode_5 N x0 (↑x0.length : Int) N [] 0 (fun l0 n1 l2 => some (l0, n1)) fun l3 => some (l3, 0))
noncomputable def cx_cEncode (N : Nat) : Cx := { T := T, isPure := tabP [⟨12, e_cCheck (s_cCheck N)⟩, ⟨32, e_operands (s_operands N)⟩, ⟨33, e_formOf (s_formOf N)⟩], pureK := fun g ds K => tabK [⟨12, e_cCheck (s_cCheck N)⟩, ⟨32, e_operands (s_operands N)⟩, ⟨33, e_formOf (s_formOf N)⟩] g ds K, memK := fun g dst ds m K => tabMK [] g dst ds m K, meth := tabM [], keep := fun r => match r with | 5 => [4, 14, 15, 16] | 13 => [4, 6, 8, 14, 15, 16, 35, 36] | _ => [], keepX := fun r => match r with | 5 => [2, 3, 4] | 13 => [4, 6, 8, 14, 15, 16] | _ => [], loopT := fun r ds m K => match r with | 13 => l_cEncode_13 N ds m K | 5 => l_cEncode_5 N ds m K | _ => none, jumps := 9 }
theorem F_cEncode_13_ok {R : Type} (N : Nat) (vs1 : List V) (n2 : Int) (n3 : Int) (n4 : Int) (n5 : Int) (n6 : Int) (n8 : Int) (n9 : Int) (n10 : Int) (n11 : Int) (n12 : Int) (n13 : Int) (n14 : Int) (l0 : List UInt8) (n7 : Int) (L : List D → Mem → Option R) (K : Ex → List D → Mem → Option R) :
    roundK (fun st K => codeK (cx_cEncode N) (loopN Tryd.f15 1) st K) 77 [4, 6, 8, 14, 15, 16, 35, 36] [4, 6, 8, 14, 15, 16] L [(.v (.bytes l0) (.own (.slot 4) 5)), (.ptr 0 6 0), (.ptr 0 8 0), (.v (.sl 23 vs1) .no), (.v (.int .i64 n2) .no), (.v (.int .i64 n3) .no), (.agg [(.v (.int .i64 n4) .no), (.v (.int .i64 n5) .no), (.v (.int .i64 n6) .no)]), (.v (.int .i64 n7) .no)] [[(6, ⟨23, [(.v (.int .i64 n8) .no), (.v (.int .i64 n9) .no), (.v (.int .i64 n10) .no), (.v (.int .i64 n11) .no)]⟩), (8, ⟨57, [(.v (.int .i64 n12) .no), (.v (.int .i64 n13) .no), (.v (.int .i64 n14) .no)]⟩)]] K = F_cEncode_13 N vs1 n2 n3 n4 n5 n6 n8 n9 n10 n11 n12 n13 n14 (fun l0 n7 => L [(.v (.bytes l0) (.own (.slot 4) 5)), (.ptr 0 6 0), (.ptr 0 8 0), (.v (.sl 23 vs1) .no), (.v (.int .i64 n2) .no), (.v (.int .i64 n3) .no), (.agg [(.v (.int .i64 n4) .no), (.v (.int .i64 n5) .no), (.v (.int .i64 n6) .no)]), (.v (.int .i64 n7) .no)] [[(6, ⟨23, [(.v (.int .i64 n8) .no), (.v (.int .i64 n9) .no), (.v (.int .i64 n10) .no), (.v (.int .i64 n11) .no)]⟩), (8, ⟨57, [(.v (.int .i64 n12) .no), (.v (.int .i64 n13) .no), (.v (.int .i64 n14) .no)]⟩)]]) (fun a0 => K (.exit 2) [(.v (.bytes a0) (.own (.slot 4) 5)), (.ptr 0 6 0), (.ptr 0 8 0), (.v (.sl 23 vs1) .no), (.v (.int .i64 n2) .no), (.v (.int .i64 n3) .no)] [[(6, ⟨23, [(.v (.int .i64 n8) .no), (.v (.int .i64 n9) .no), (.v (.int .i64 n10) .no), (.v (.int .i64 n11) .no)]⟩), (8, ⟨57, [(.v (.int .i64 n12) .no), (.v (.int .i64 n13) .no), (.v (.int .i64 n14) .no)]⟩)]]) l0 n7 := by
  kernel_rfl
theorem S_cEncode_13_ok {R : Type} (N : Nat) (vs1 : List V) (n2 : Int) (n3 : Int) (n4 : Int) (n5 : Int) (n6 : Int) (n8 : Int) (n9 : Int) (n10 : Int) (n11 : Int) (n12 : Int) (n13 : Int) (n14 : Int) (K : Ex → List D → Mem → Option R) : ∀ (t : Nat) (l0 : List UInt8) (n7 : Int),
    loopK (fun st K => codeK (cx_cEncode N) (loopN Tryd.f15 1) st K) 77 [4, 6, 8, 14, 15, 16, 35, 36] [4, 6, 8, 14, 15, 16] t [(.v (.bytes l0) (.own (.slot 4) 5)), (.ptr 0 6 0), (.ptr 0 8 0), (.v (.sl 23 vs1) .no), (.v (.int .i64 n2) .no), (.v (.int .i64 n3) .no), (.agg [(.v (.int .i64 n4) .no), (.v (.int .i64 n5) .no), (.v (.int .i64 n6) .no)]), (.v (.int .i64 n7) .no)] [[(6, ⟨23, [(.v (.int .i64 n8) .no), (.v (.int .i64 n9) .no), (.v (.int .i64 n10) .no), (.v (.int .i64 n11) .no)]⟩), (8, ⟨57, [(.v (.int .i64 n12) .no), (.v (.int .i64 n13) .no), (.v (.int .i64 n14) .no)]⟩)]] K = S_cEncode_13 N vs1 n2 n3 n4 n5 n6 n8 n9 n10 n11 n12 n13 n14 t l0 n7 (fun a0 => K (.exit 2) [(.v (.bytes a0) (.own (.slot 4) 5)), (.ptr 0 6 0), (.ptr 0 8 0), (.v (.sl 23 vs1) .no), (.v (.int .i64 n2) .no), (.v (.int .i64 n3) .no)] [[(6, ⟨23, [(.v (.int .i64 n8) .no), (.v (.int .i64 n9) .no), (.v (.int .i64 n10) .no), (.v (.int .i64 n11) .no)]⟩), (8, ⟨57, [(.v (.int .i64 n12) .no), (.v (.int .i64 n13) .no), (.v (.int .i64 n14) .no)]⟩)]])
  | 0, l0, n7 => rfl
  | t + 1, l0, n7 => (F_cEncode_13_ok N vs1 n2 n3 n4 n5 n6 n8 n9 n10 n11 n12 n13 n14 l0 n7 _ K).trans (congrArg (fun L => F_cEncode_13 N vs1 n2 n3 n4 n5 n6 n8 n9 n10 n11 n12 n13 n14 L (fun a0 => K (.exit 2) [(.v (.bytes a0) (.own (.slot 4) 5)), (.ptr 0 6 0), (.ptr 0 8 0), (.v (.sl 23 vs1) .no), (.v (.int .i64 n2) .no), (.v (.int .i64 n3) .no)] [[(6, ⟨23, [(.v (.int .i64 n8) .no), (.v (.int .i64 n9) .no), (.v (.int .i64 n10) .no), (.v (.int .i64 n11) .no)]⟩), (8, ⟨57, [(.v (.int .i64 n12) .no), (.v (.int .i64 n13) .no), (.v (.int .i64 n14) .no)]⟩)]]) l0 n7) (funext fun l0 => funext fun n7 => S_cEncode_13_ok N vs1 n2 n3 n4 n5 n6 n8 n9 n10 n11 n12 n13 n14 K t l0 n7))
theorem F_cEncode_5_ok {R : Type} (N : Nat) (vs1 : List V) (n2 : Int) (l0 : List UInt8) (n3 : Int) (L : List D → Mem → Option R) (K : Ex → List D → Mem → Option R) :
    roundK (fun st K => codeK (cx_cEncode N) (loopN Tryd.f15 0) st K) 77 [4, 14, 15, 16] [2, 3, 4] L [(.v (.bytes l0) (.own (.slot 4) 5)), (.v (.sl 23 vs1) .no), (.v (.int .i64 n2) .no), (.v (.int .i64 n3) .no)] [[]] K = F_cEncode_5 N vs1 n2 (fun l0 n3 => L [(.v (.bytes l0) (.own (.slot 4) 5)), (.v (.sl 23 vs1) .no), (.v (.int .i64 n2) .no), (.v (.int .i64 n3) .no)] [[]]) (fun a0 a1 a2 => K .ret [(.v (.bytes a0) (.own (.slot 2) 5)), (.v (.int .i64 a1) .no), (.v (.bytes a2) (.own (.slot 4) 5))] [[]]) (fun a0 => K (.exit 0) [.any, .any, (.v (.bytes a0) (.own (.slot 4) 5))] [[]]) l0 n3 := by
  kernel_rfl
theorem S_cEncode_5_ok {R : Type} (N : Nat) (vs1 : List V) (n2 : Int) (K : Ex → List D → Mem → Option R) : ∀ (t : Nat) (l0 : List UInt8) (n3 : Int),
    loopK (fun st K => codeK (cx_cEncode N) (loopN Tryd.f15 0) st K) 77 [4, 14, 15, 16] [2, 3, 4] t [(.v (.bytes l0) (.own (.slot 4) 5)), (.v (.sl 23 vs1) .no), (.v (.int .i64 n2) .no), (.v (.int .i64 n3) .no)] [[]] K = S_cEncode_5 N vs1 n2 t l0 n3 (fun a0 a1 a2 => K .ret [(.v (.bytes a0) (.own (.slot 2) 5)), (.v (.int .i64 a1) .no), (.v (.bytes a2) (.own (.slot 4) 5))] [[]]) (fun a0 => K (.exit 0) [.any, .any, (.v (.bytes a0) (.own (.slot 4) 5))] [[]])
  | 0, l0, n3 => rfl
  | t + 1, l0, n3 => (F_cEncode_5_ok N vs1 n2 l0 n3 _ K).trans (congrArg (fun L => F_cEncode_5 N vs1 n2 L (fun a0 a1 a2 => K .ret [(.v (.bytes a0) (.own (.slot 2) 5)), (.v (.int .i64 a1) .no), (.v (.bytes a2) (.own (.slot 4) 5))] [[]]) (fun a0 => K (.exit 0) [.any, .any, (.v (.bytes a0) (.own (.slot 4) 5))] [[]]) l0 n3) (funext fun l0 => funext fun n3 => S_cEncode_5_ok N vs1 n2 K t l0 n3))
theorem s_cEncode_ok (N : Nat) (x0 : List V) : bodyK (cx_cEncode N) Tryd.f15 [.v (.sl 23 x0) .no] [] r_cEncode = s_cEncode N x0 := by
  kernel_rfl
theorem go_cEncode : Goes Tryd.prog 15 := goes_of Tryd.func15 (by kernel_rfl) (c := bodyOf Tryd.f15) (by kernel_rfl)
theorem eo_cEncode (s : List V → Option (List UInt8 × Int)) (hs : ∀ (x0 : List V) (r0 : List UInt8) (r1 : Int), s x0 = some (r0, r1) → PureRet Tryd.prog T 15 [.v (.sl 23 x0) .no] [.v (.bytes r0) .no, .v (.int .i64 r1) .no]) : EntOK Tryd.prog T ⟨15, e_cEncode s⟩ := by
  refine ⟨go_cEncode, fun R ds K r h => ?_, fun R ds K => ?_⟩
  · simp only [e_cEncode] at h
    split at h
    · obtain ⟨r0, r1, h1, h2⟩ := bnd2_some h
      exact ⟨_, h2, hs _ _ _ h1⟩
    · cases h
  · simp only [e_cEncode]
    split
    · rw [bnd2_b]; rfl
    · rfl
theorem co_cEncode (N : Nat) : CxOK Tryd.prog (cx_cEncode N) :=
  cxOK_of2 (es := [⟨12, e_cCheck (s_cCheck N)⟩, ⟨32, e_operands (s_operands N)⟩, ⟨33, e_formOf (s_formOf N)⟩]) (me := []) (ms := []) T_ok ⟨eo_cCheck _ (p_cCheck N), eo_operands _ (p_operands N), eo_formOf _ (p_formOf N), trivial⟩ trivial trivial rfl (fun _ _ _ _ => rfl) (fun _ _ _ _ _ _ => rfl) rfl
theorem lk_cEncode_5 (N : Nat) : LoopOK (cx_cEncode N) 77 (loopN Tryd.f15 0) := by
  refine loopOK_of (rid := 5) (by kernel_rfl) rfl rfl fun R ds m K r h => ?_
  have h : l_cEncode_5 N ds m K = some r := h
  unfold l_cEncode_5 at h
  split at h
  · exact ⟨N, Eq.trans (S_cEncode_5_ok ..) h⟩
  · cases h
theorem lk_cEncode_13 (N : Nat) : LoopOK (cx_cEncode N) 77 (loopN Tryd.f15 1) := by
  refine loopOK_of (rid := 13) (by kernel_rfl) rfl rfl fun R ds m K r h => ?_
  have h : l_cEncode_13 N ds m K = some r := h
  unfold l_cEncode_13 at h
  split at h
  · exact ⟨N, Eq.trans (S_cEncode_13_ok ..) h⟩
  · cases h
theorem lo_cEncode (N : Nat) : LoopsOK (cx_cEncode N) Tryd.f15.ntmps (bodyOf Tryd.f15) :=
  loopsOK_of (k := 2) (by kernel_rfl) ⟨⟨trivial, lk_cEncode_5 N⟩, lk_cEncode_13 N⟩
theorem p_cEncode (N : Nat) (x0 : List V) (r0 : List UInt8) (r1 : Int) (h : s_cEncode N x0 = some (r0, r1)) : PureRet Tryd.prog T 15 [.v (.sl 23 x0) .no] [.v (.bytes r0) .no, .v (.int .i64 r1) .no] :=
  pure_of (cx := cx_cEncode N) (by kernel_rfl) (co_cEncode N) Tryd.func15 (by kernel_rfl) (by kernel_rfl) (lo_cEncode N) rfl rfl rfl (rf := r_cEncode) ((s_cEncode_ok N x0).trans h) (fun rs' m h => by
    unfold r_cEncode at h
    split at h
    · cases h; exact ⟨rfl, rfl⟩
    · cases h)
end Go.Proofs.YtjpmogajlnkihaaDoor.En

/- The printed functions, together. -/

/- Six results. -/
namespace Go.Proofs.YtjpmogajlnkihaaDoor.En
open Go
end Go.Proofs.YtjpmogajlnkihaaDoor.En

/- Functions of the program in plain Lean, joined to the program by evaluation; printed by a program. -/
namespace Go.Proofs.YtjpmogajlnkihaaDoor.En
open Go Go.Proofs
set_option maxRecDepth 100000
set_option linter.unusedVariables false
noncomputable def e_word {R : Type} (s : Int → Int → Option (List UInt8)) (ds : List D) (K : List D → Option R) : Option R :=
  match ds with
  | [.v (.int .i64 x0) .no, .v (.int .i64 x1) .no] => bnd1 (s x0 x1) fun r0 => K [.v (.str r0) .no]
  | _ => none
noncomputable def r_word (rs : List D) (_ : Mem) : Option (List UInt8) :=
  match rs with
  | [.v (.str r0) _] => some (r0)
  | _ => none
noncomputable def s_word (N : Nat) (x0 : Int) (x1 : Int) : Option (List UInt8) := br (decide (x0 = 5)) (br (decide (x1 = 255)) (some ([115, 121, 115, 116, 101, 109] : List UInt8)) (br (decide (x0 = 7)) (bnd1 (s_kinds N) fun l0 => br (decide (0 ≤ IntKind.i64.wrap (x1 - 2)) && decide (IntKind.i64.wrap (x1 - 2) < (↑l0.length : Int))) (at? l0 (IntKind.i64.wrap (x1 - 2)).toNat fun x1 => x1.unStr fun l2 => some l2) none) (bnd1 (s_Itoa N x1) fun l3 => some l3))) (br (decide (x0 = 7)) (bnd1 (s_kinds N) fun l4 => br (decide (0 ≤ IntKind.i64.wrap (x1 - 2)) && decide (IntKind.i64.wrap (x1 - 2) < (↑l4.length : Int))) (at? l4 (IntKind.i64.wrap (x1 - 2)).toNat fun x5 => x5.unStr fun l6 => some l6) none) (bnd1 (s_Itoa N x1) fun l7 => some l7))
noncomputable def cx_word (N : Nat) : Cx := { T := T, isPure := tabP [⟨57, e_kinds (s_kinds N)⟩, ⟨58, e_Itoa (s_Itoa N)⟩], pureK := fun g ds K => tabK [⟨57, e_kinds (s_kinds N)⟩, ⟨58, e_Itoa (s_Itoa N)⟩] g ds K, memK := fun g dst ds m K => tabMK [] g dst ds m K, meth := tabM [], keep := fun _ => [], keepX := fun _ => [], loopT := fun _ _ _ _ => none, jumps := 9 }
theorem s_word_ok (N : Nat) (x0 : Int) (x1 : Int) : bodyK (cx_word N) Tryd.f42 [.v (.int .i64 x0) .no, .v (.int .i64 x1) .no] [] r_word = s_word N x0 x1 := by
  kernel_rfl
theorem go_word : Goes Tryd.prog 42 := goes_of Tryd.func42 (by kernel_rfl) (c := bodyOf Tryd.f42) (by kernel_rfl)
theorem eo_word (s : Int → Int → Option (List UInt8)) (hs : ∀ (x0 : Int) (x1 : Int) (r0 : List UInt8), s x0 x1 = some r0 → PureRet Tryd.prog T 42 [.v (.int .i64 x0) .no, .v (.int .i64 x1) .no] [.v (.str r0) .no]) : EntOK Tryd.prog T ⟨42, e_word s⟩ := by
  refine ⟨go_word, fun R ds K r h => ?_, fun R ds K => ?_⟩
  · simp only [e_word] at h
    split at h
    · obtain ⟨r0, h1, h2⟩ := bnd1_some h
      exact ⟨_, h2, hs _ _ _ h1⟩
    · cases h
  · simp only [e_word]
    split
    · rw [bnd1_b]; rfl
    · rfl
theorem co_word (N : Nat) : CxOK Tryd.prog (cx_word N) :=
  cxOK_of2 (es := [⟨57, e_kinds (s_kinds N)⟩, ⟨58, e_Itoa (s_Itoa N)⟩]) (me := []) (ms := []) T_ok ⟨eo_kinds _ (p_kinds N), eo_Itoa _ (p_Itoa N), trivial⟩ trivial trivial rfl (fun _ _ _ _ => rfl) (fun _ _ _ _ _ _ => rfl) rfl
theorem lo_word (N : Nat) : LoopsOK (cx_word N) Tryd.f42.ntmps (bodyOf Tryd.f42) :=
  loopsOK_of (k := 0) (by kernel_rfl) trivial
theorem p_word (N : Nat) (x0 : Int) (x1 : Int) (r0 : List UInt8) (h : s_word N x0 x1 = some r0) : PureRet Tryd.prog T 42 [.v (.int .i64 x0) .no, .v (.int .i64 x1) .no] [.v (.str r0) .no] :=
  pure_of (cx := cx_word N) (by kernel_rfl) (co_word N) Tryd.func42 (by kernel_rfl) (by kernel_rfl) (lo_word N) rfl rfl rfl (rf := r_word) ((s_word_ok N x0 x1).trans h) (fun rs' m h => by
    unfold r_word at h
    split at h
    · cases h; exact ⟨rfl, rfl⟩
    · cases h)
noncomputable def e_words {R : Type} (s : Int → Int → Int → List V → Option (List V × Bool)) (ds : List D) (K : List D → Option R) : Option R :=
  match ds with
  | [.agg [.v (.int .i64 x0) .no, .v (.int .i64 x1) .no, .v (.int .i64 x2) .no], .v (.sl 9 x3) .no] => bnd2 (s x0 x1 x2 x3) fun r0 r1 => K [.v (.sl 9 r0) .no, .v (.bool r1) .no]
  | _ => none
noncomputable def r_words (rs : List D) (_ : Mem) : Option (List V × Bool) :=
  match rs with
  | [.v (.sl 9 r0) _, .v (.bool r1) _] => some (r0, r1)
  | _ => none
noncomputable def F_words_3 {R : Type} (N : Nat) (n3 : Int) (n4 : Int) (n5 : Int) (Lq : List V → List V → Int → Option R) (K0 : List V → List V → Bool → List V → Option R) (K1 : List V → List V → Option R) (vs0 : List V) (vs1 : List V) (n2 : Int) : Option R := br (decide (n2 < 3)) (br (decide (n2 = 0)) (br (!decide (n3 = 0)) (br (decide ((↑vs0.length : Int) = 0)) (K0 vs0 [] false vs1) (br (decide (IntKind.i64.wrap (n2 + 1) < 3)) (br (decide (IntKind.i64.wrap (n2 + 1) = 0)) (bnd1 (s_joined N n3) fun b0 => br b0 (br (decide (0 < (↑vs0.length : Int))) (at? vs0 0 fun x1 => x1.unStr fun l2 => bnd3 (s_Cut N l2 ([46] : List UInt8)) fun l3 l4 b5 => br (!b5) (K0 vs0 [] false vs1) (br (decide ((vs1.length + [V.str l3, V.str l4].length) * 16 ≤ 140737488355328)) (br (decide (1 ≤ (↑vs0.length : Int))) (Lq (List.drop 1 vs0) (vs1 ++ [V.str l3, V.str l4]) (IntKind.i64.wrap (IntKind.i64.wrap (n2 + 1) + 1))) none) none)) none) (br (decide (0 < (↑vs0.length : Int))) (at? vs0 0 fun x6 => x6.unStr fun l7 => br (decide ((vs1.length + [V.str l7].length) * 16 ≤ 140737488355328)) (br (decide (1 ≤ (↑vs0.length : Int))) (Lq (List.drop 1 vs0) (vs1 ++ [V.str l7]) (IntKind.i64.wrap (n2 + 1))) none) none) none)) (br (decide (IntKind.i64.wrap (n2 + 1) = 1)) (bnd1 (s_joined N n4) fun b8 => br b8 (br (decide (0 < (↑vs0.length : Int))) (at? vs0 0 fun x9 => x9.unStr fun l10 => bnd3 (s_Cut N l10 ([46] : List UInt8)) fun l11 l12 b13 => br (!b13) (K0 vs0 [] false vs1) (br (decide ((vs1.length + [V.str l11, V.str l12].length) * 16 ≤ 140737488355328)) (br (decide (1 ≤ (↑vs0.length : Int))) (Lq (List.drop 1 vs0) (vs1 ++ [V.str l11, V.str l12]) (IntKind.i64.wrap (IntKind.i64.wrap (n2 + 1) + 1))) none) none)) none) (br (decide (0 < (↑vs0.length : Int))) (at? vs0 0 fun x14 => x14.unStr fun l15 => br (decide ((vs1.length + [V.str l15].length) * 16 ≤ 140737488355328)) (br (decide (1 ≤ (↑vs0.length : Int))) (Lq (List.drop 1 vs0) (vs1 ++ [V.str l15]) (IntKind.i64.wrap (n2 + 1))) none) none) none)) (br (decide (IntKind.i64.wrap (n2 + 1) = 2)) (bnd1 (s_joined N n5) fun b16 => br b16 (br (decide (0 < (↑vs0.length : Int))) (at? vs0 0 fun x17 => x17.unStr fun l18 => bnd3 (s_Cut N l18 ([46] : List UInt8)) fun l19 l20 b21 => br (!b21) (K0 vs0 [] false vs1) (br (decide ((vs1.length + [V.str l19, V.str l20].length) * 16 ≤ 140737488355328)) (br (decide (1 ≤ (↑vs0.length : Int))) (Lq (List.drop 1 vs0) (vs1 ++ [V.str l19, V.str l20]) (IntKind.i64.wrap (IntKind.i64.wrap (n2 + 1) + 1))) none) none)) none) (br (decide (0 < (↑vs0.length : Int))) (at? vs0 0 fun x22 => x22.unStr fun l23 => br (decide ((vs1.length + [V.str l23].length) * 16 ≤ 140737488355328)) (br (decide (1 ≤ (↑vs0.length : Int))) (Lq (List.drop 1 vs0) (vs1 ++ [V.str l23]) (IntKind.i64.wrap (n2 + 1))) none) none) none)) none))) (br (decide (0 < (↑vs0.length : Int))) (at? vs0 0 fun x24 => x24.unStr fun l25 => br (decide ((vs1.length + [V.str l25].length) * 16 ≤ 140737488355328)) (br (decide (1 ≤ (↑vs0.length : Int))) (Lq (List.drop 1 vs0) (vs1 ++ [V.str l25]) (IntKind.i64.wrap (n2 + 1))) none) none) none))) (K1 vs0 vs1)) (br (decide (n2 = 1)) (br (!decide (n4 = 0)) (br (decide ((↑vs0.length : Int) = 0)) (K0 vs0 [] false vs1) (br (decide (IntKind.i64.wrap (n2 + 1) < 3)) (br (decide (IntKind.i64.wrap (n2 + 1) = 0)) (bnd1 (s_joined N n3) fun b26 => br b26 (br (decide (0 < (↑vs0.length : Int))) (at? vs0 0 fun x27 => x27.unStr fun l28 => bnd3 (s_Cut N l28 ([46] : List UInt8)) fun l29 l30 b31 => br (!b31) (K0 vs0 [] false vs1) (br (decide ((vs1.length + [V.str l29, V.str l30].length) * 16 ≤ 140737488355328)) (br (decide (1 ≤ (↑vs0.length : Int))) (Lq (List.drop 1 vs0) (vs1 ++ [V.str l29, V.str l30]) (IntKind.i64.wrap (IntKind.i64.wrap (n2 + 1) + 1))) none) none)) none) (br (decide (0 < (↑vs0.length : Int))) (at? vs0 0 fun x32 => x32.unStr fun l33 => br (decide ((vs1.length + [V.str l33].length) * 16 ≤ 140737488355328)) (br (decide (1 ≤ (↑vs0.length : Int))) (Lq (List.drop 1 vs0) (vs1 ++ [V.str l33]) (IntKind.i64.wrap (n2 + 1))) none) none) none)) (br (decide (IntKind.i64.wrap (n2 + 1) = 1)) (bnd1 (s_joined N n4) fun b34 => br b34 (br (decide (0 < (↑vs0.length : Int))) (at? vs0 0 fun x35 => x35.unStr fun l36 => bnd3 (s_Cut N l36 ([46] : List UInt8)) fun l37 l38 b39 => br (!b39) (K0 vs0 [] false vs1) (br (decide ((vs1.length + [V.str l37, V.str l38].length) * 16 ≤ 140737488355328)) (br (decide (1 ≤ (↑vs0.length : Int))) (Lq (List.drop 1 vs0) (vs1 ++ [V.str l37, V.str l38]) (IntKind.i64.wrap (IntKind.i64.wrap (n2 + 1) + 1))) none) none)) none) (br (decide (0 < (↑vs0.length : Int))) (at? vs0 0 fun x40 => x40.unStr fun l41 => br (decide ((vs1.length + [V.str l41].length) * 16 ≤ 140737488355328)) (br (decide (1 ≤ (↑vs0.length : Int))) (Lq (List.drop 1 vs0) (vs1 ++ [V.str l41]) (IntKind.i64.wrap (n2 + 1))) none) none) none)) (br (decide (IntKind.i64.wrap (n2 + 1) = 2)) (bnd1 (s_joined N n5) fun b42 => br b42 (br (decide (0 < (↑vs0.length : Int))) (at? vs0 0 fun x43 => x43.unStr fun l44 => bnd3 (s_Cut N l44 ([46] : List UInt8)) fun l45 l46 b47 => br (!b47) (K0 vs0 [] false vs1) (br (decide ((vs1.length + [V.str l45, V.str l46].length) * 16 ≤ 140737488355328)) (br (decide (1 ≤ (↑vs0.length : Int))) (Lq (List.drop 1 vs0) (vs1 ++ [V.str l45, V.str l46]) (IntKind.i64.wrap (IntKind.i64.wrap (n2 + 1) + 1))) none) none)) none) (br (decide (0 < (↑vs0.length : Int))) (at? vs0 0 fun x48 => x48.unStr fun l49 => br (decide ((vs1.length + [V.str l49].length) * 16 ≤ 140737488355328)) (br (decide (1 ≤ (↑vs0.length : Int))) (Lq (List.drop 1 vs0) (vs1 ++ [V.str l49]) (IntKind.i64.wrap (n2 + 1))) none) none) none)) none))) (br (decide (0 < (↑vs0.length : Int))) (at? vs0 0 fun x50 => x50.unStr fun l51 => br (decide ((vs1.length + [V.str l51].length) * 16 ≤ 140737488355328)) (br (decide (1 ≤ (↑vs0.length : Int))) (Lq (List.drop 1 vs0) (vs1 ++ [V.str l51]) (IntKind.i64.wrap (n2 + 1))) none) none) none))) (K1 vs0 vs1)) (br (decide (n2 = 2)) (br (!decide (n5 = 0)) (br (decide ((↑vs0.length : Int) = 0)) (K0 vs0 [] false vs1) (br (decide (IntKind.i64.wrap (n2 + 1) < 3)) (br (decide (IntKind.i64.wrap (n2 + 1) = 0)) (bnd1 (s_joined N n3) fun b52 => br b52 (br (decide (0 < (↑vs0.length : Int))) (at? vs0 0 fun x53 => x53.unStr fun l54 => bnd3 (s_Cut N l54 ([46] : List UInt8)) fun l55 l56 b57 => br (!b57) (K0 vs0 [] false vs1) (br (decide ((vs1.length + [V.str l55, V.str l56].length) * 16 ≤ 140737488355328)) (br (decide (1 ≤ (↑vs0.length : Int))) (Lq (List.drop 1 vs0) (vs1 ++ [V.str l55, V.str l56]) (IntKind.i64.wrap (IntKind.i64.wrap (n2 + 1) + 1))) none) none)) none) (br (decide (0 < (↑vs0.length : Int))) (at? vs0 0 fun x58 => x58.unStr fun l59 => br (decide ((vs1.length + [V.str l59].length) * 16 ≤ 140737488355328)) (br (decide (1 ≤ (↑vs0.length : Int))) (Lq (List.drop 1 vs0) (vs1 ++ [V.str l59]) (IntKind.i64.wrap (n2 + 1))) none) none) none)) (br (decide (IntKind.i64.wrap (n2 + 1) = 1)) (bnd1 (s_joined N n4) fun b60 => br b60 (br (decide (0 < (↑vs0.length : Int))) (at? vs0 0 fun x61 => x61.unStr fun l62 => bnd3 (s_Cut N l62 ([46] : List UInt8)) fun l63 l64 b65 => br (!b65) (K0 vs0 [] false vs1) (br (decide ((vs1.length + [V.str l63, V.str l64].length) * 16 ≤ 140737488355328)) (br (decide (1 ≤ (↑vs0.length : Int))) (Lq (List.drop 1 vs0) (vs1 ++ [V.str l63, V.str l64]) (IntKind.i64.wrap (IntKind.i64.wrap (n2 + 1) + 1))) none) none)) none) (br (decide (0 < (↑vs0.length : Int))) (at? vs0 0 fun x66 => x66.unStr fun l67 => br (decide ((vs1.length + [V.str l67].length) * 16 ≤ 140737488355328)) (br (decide (1 ≤ (↑vs0.length : Int))) (Lq (List.drop 1 vs0) (vs1 ++ [V.str l67]) (IntKind.i64.wrap (n2 + 1))) none) none) none)) (br (decide (IntKind.i64.wrap (n2 + 1) = 2)) (bnd1 (s_joined N n5) fun b68 => br b68 (br (decide (0 < (↑vs0.length : Int))) (at? vs0 0 fun x69 => x69.unStr fun l70 => bnd3 (s_Cut N l70 ([46] : List UInt8)) fun l71 l72 b73 => br (!b73) (K0 vs0 [] false vs1) (br (decide ((vs1.length + [V.str l71, V.str l72].length) * 16 ≤ 140737488355328)) (br (decide (1 ≤ (↑vs0.length : Int))) (Lq (List.drop 1 vs0) (vs1 ++ [V.str l71, V.str l72]) (IntKind.i64.wrap (IntKind.i64.wrap (n2 + 1) + 1))) none) none)) none) (br (decide (0 < (↑vs0.length : Int))) (at? vs0 0 fun x74 => x74.unStr fun l75 => br (decide ((vs1.length + [V.str l75].length) * 16 ≤ 140737488355328)) (br (decide (1 ≤ (↑vs0.length : Int))) (Lq (List.drop 1 vs0) (vs1 ++ [V.str l75]) (IntKind.i64.wrap (n2 + 1))) none) none) none)) none))) (br (decide (0 < (↑vs0.length : Int))) (at? vs0 0 fun x76 => x76.unStr fun l77 => br (decide ((vs1.length + [V.str l77].length) * 16 ≤ 140737488355328)) (br (decide (1 ≤ (↑vs0.length : Int))) (Lq (List.drop 1 vs0) (vs1 ++ [V.str l77]) (IntKind.i64.wrap (n2 + 1))) none) none) none))) (K1 vs0 vs1)) none))) (K1 vs0 vs1)
noncomputable def S_words_3 {R : Type} (N : Nat) (n3 : Int) (n4 : Int) (n5 : Int) : Nat → List V → List V → Int → (List V → List V → Bool → List V → Option R) → (List V → List V → Option R) → Option R | 0, _, _, _, _, _ => none | t + 1, vs0, vs1, n2, K0, K1 => F_words_3 N n3 n4 n5 (fun vs0 vs1 n2 => S_words_3 N n3 n4 n5 t vs0 vs1 n2 K0 K1) K0 K1 vs0 vs1 n2
noncomputable def l_words_3 {R : Type} (N : Nat) (ds : List D) (m : Mem) (K : Ex → List D → Mem → Option R) : Option R :=
  match ds, m with
  | [(.v (.sl 9 vs0) .no), (.ptr 0 2 0), (.v (.sl 9 vs1) (.own (.slot 6) 9)), (.v (.int .i64 n2) .no)], [[(2, ⟨59, [(.v (.int .i64 n3) .no), (.v (.int .i64 n4) .no), (.v (.int .i64 n5) .no)]⟩)]] => S_words_3 N n3 n4 n5 N vs0 vs1 n2 (fun a0 a1 a2 a3 => K .ret [(.v (.sl 9 a0) .no), (.ptr 0 2 0), (.v (.sl 9 a1) (.own (.slot 4) 9)), (.v (.bool a2) .no), (.v (.sl 9 a3) (.own (.slot 6) 9))] [[(2, ⟨59, [(.v (.int .i64 n3) .no), (.v (.int .i64 n4) .no), (.v (.int .i64 n5) .no)]⟩)]]) (fun a0 a1 => K (.exit 0) [(.v (.sl 9 a0) .no), (.ptr 0 2 0), .any, .any, (.v (.sl 9 a1) (.own (.slot 6) 9))] [[(2, ⟨59, [(.v (.int .i64 n3) .no), (.v (.int .i64 n4) .no), (.v (.int .i64 n5) .no)]⟩)]])
  | _, _ => none
noncomputable def s_words (N : Nat) (x0 : Int) (x1 : Int) (x2 : Int) (x3 : List V) : Option (List V × Bool) := S_words_3 N x0 x1 x2 N x3 [] 0 (fun l0 l1 b2 l3 => some (l1, b2)) fun l4 l5 => some (l5, decide ((↑l4.length : Int) = 0))
noncomputable def cx_words (N : Nat) : Cx := { T := T, isPure := tabP [⟨41, e_joined (s_joined N)⟩, ⟨45, e_Cut (s_Cut N)⟩], pureK := fun g ds K => tabK [⟨41, e_joined (s_joined N)⟩, ⟨45, e_Cut (s_Cut N)⟩] g ds K, memK := fun g dst ds m K => tabMK [] g dst ds m K, meth := tabM [], keep := fun r => match r with | 3 => [1, 2, 6, 7] | _ => [], keepX := fun r => match r with | 3 => [1, 2, 4, 5, 6] | _ => [], loopT := fun r ds m K => match r with | 3 => l_words_3 N ds m K | _ => none, jumps := 9 }
theorem F_words_3_ok {R : Type} (N : Nat) (n3 : Int) (n4 : Int) (n5 : Int) (vs0 : List V) (vs1 : List V) (n2 : Int) (L : List D → Mem → Option R) (K : Ex → List D → Mem → Option R) :
    roundK (fun st K => codeK (cx_words N) (loopN Tryd.f64 0) st K) 63 [1, 2, 6, 7] [1, 2, 4, 5, 6] L [(.v (.sl 9 vs0) .no), (.ptr 0 2 0), (.v (.sl 9 vs1) (.own (.slot 6) 9)), (.v (.int .i64 n2) .no)] [[(2, ⟨59, [(.v (.int .i64 n3) .no), (.v (.int .i64 n4) .no), (.v (.int .i64 n5) .no)]⟩)]] K = F_words_3 N n3 n4 n5 (fun vs0 vs1 n2 => L [(.v (.sl 9 vs0) .no), (.ptr 0 2 0), (.v (.sl 9 vs1) (.own (.slot 6) 9)), (.v (.int .i64 n2) .no)] [[(2, ⟨59, [(.v (.int .i64 n3) .no), (.v (.int .i64 n4) .no), (.v (.int .i64 n5) .no)]⟩)]]) (fun a0 a1 a2 a3 => K .ret [(.v (.sl 9 a0) .no), (.ptr 0 2 0), (.v (.sl 9 a1) (.own (.slot 4) 9)), (.v (.bool a2) .no), (.v (.sl 9 a3) (.own (.slot 6) 9))] [[(2, ⟨59, [(.v (.int .i64 n3) .no), (.v (.int .i64 n4) .no), (.v (.int .i64 n5) .no)]⟩)]]) (fun a0 a1 => K (.exit 0) [(.v (.sl 9 a0) .no), (.ptr 0 2 0), .any, .any, (.v (.sl 9 a1) (.own (.slot 6) 9))] [[(2, ⟨59, [(.v (.int .i64 n3) .no), (.v (.int .i64 n4) .no), (.v (.int .i64 n5) .no)]⟩)]]) vs0 vs1 n2 := by
  kernel_rfl
theorem S_words_3_ok {R : Type} (N : Nat) (n3 : Int) (n4 : Int) (n5 : Int) (K : Ex → List D → Mem → Option R) : ∀ (t : Nat) (vs0 : List V) (vs1 : List V) (n2 : Int),
    loopK (fun st K => codeK (cx_words N) (loopN Tryd.f64 0) st K) 63 [1, 2, 6, 7] [1, 2, 4, 5, 6] t [(.v (.sl 9 vs0) .no), (.ptr 0 2 0), (.v (.sl 9 vs1) (.own (.slot 6) 9)), (.v (.int .i64 n2) .no)] [[(2, ⟨59, [(.v (.int .i64 n3) .no), (.v (.int .i64 n4) .no), (.v (.int .i64 n5) .no)]⟩)]] K = S_words_3 N n3 n4 n5 t vs0 vs1 n2 (fun a0 a1 a2 a3 => K .ret [(.v (.sl 9 a0) .no), (.ptr 0 2 0), (.v (.sl 9 a1) (.own (.slot 4) 9)), (.v (.bool a2) .no), (.v (.sl 9 a3) (.own (.slot 6) 9))] [[(2, ⟨59, [(.v (.int .i64 n3) .no), (.v (.int .i64 n4) .no), (.v (.int .i64 n5) .no)]⟩)]]) (fun a0 a1 => K (.exit 0) [(.v (.sl 9 a0) .no), (.ptr 0 2 0), .any, .any, (.v (.sl 9 a1) (.own (.slot 6) 9))] [[(2, ⟨59, [(.v (.int .i64 n3) .no), (.v (.int .i64 n4) .no), (.v (.int .i64 n5) .no)]⟩)]])
  | 0, vs0, vs1, n2 => rfl
  | t + 1, vs0, vs1, n2 => (F_words_3_ok N n3 n4 n5 vs0 vs1 n2 _ K).trans (congrArg (fun L => F_words_3 N n3 n4 n5 L (fun a0 a1 a2 a3 => K .ret [(.v (.sl 9 a0) .no), (.ptr 0 2 0), (.v (.sl 9 a1) (.own (.slot 4) 9)), (.v (.bool a2) .no), (.v (.sl 9 a3) (.own (.slot 6) 9))] [[(2, ⟨59, [(.v (.int .i64 n3) .no), (.v (.int .i64 n4) .no), (.v (.int .i64 n5) .no)]⟩)]]) (fun a0 a1 => K (.exit 0) [(.v (.sl 9 a0) .no), (.ptr 0 2 0), .any, .any, (.v (.sl 9 a1) (.own (.slot 6) 9))] [[(2, ⟨59, [(.v (.int .i64 n3) .no), (.v (.int .i64 n4) .no), (.v (.int .i64 n5) .no)]⟩)]]) vs0 vs1 n2) (funext fun vs0 => funext fun vs1 => funext fun n2 => S_words_3_ok N n3 n4 n5 K t vs0 vs1 n2))
theorem s_words_ok (N : Nat) (x0 : Int) (x1 : Int) (x2 : Int) (x3 : List V) : bodyK (cx_words N) Tryd.f64 [.agg [.v (.int .i64 x0) .no, .v (.int .i64 x1) .no, .v (.int .i64 x2) .no], .v (.sl 9 x3) .no] [] r_words = s_words N x0 x1 x2 x3 := by
  kernel_rfl
theorem go_words : Goes Tryd.prog 64 := goes_of Tryd.func64 (by kernel_rfl) (c := bodyOf Tryd.f64) (by kernel_rfl)
theorem eo_words (s : Int → Int → Int → List V → Option (List V × Bool)) (hs : ∀ (x0 : Int) (x1 : Int) (x2 : Int) (x3 : List V) (r0 : List V) (r1 : Bool), s x0 x1 x2 x3 = some (r0, r1) → PureRet Tryd.prog T 64 [.agg [.v (.int .i64 x0) .no, .v (.int .i64 x1) .no, .v (.int .i64 x2) .no], .v (.sl 9 x3) .no] [.v (.sl 9 r0) .no, .v (.bool r1) .no]) : EntOK Tryd.prog T ⟨64, e_words s⟩ := by
  refine ⟨go_words, fun R ds K r h => ?_, fun R ds K => ?_⟩
  · simp only [e_words] at h
    split at h
    · obtain ⟨r0, r1, h1, h2⟩ := bnd2_some h
      exact ⟨_, h2, hs _ _ _ _ _ _ h1⟩
    · cases h
  · simp only [e_words]
    split
    · rw [bnd2_b]; rfl
    · rfl
theorem co_words (N : Nat) : CxOK Tryd.prog (cx_words N) :=
  cxOK_of2 (es := [⟨41, e_joined (s_joined N)⟩, ⟨45, e_Cut (s_Cut N)⟩]) (me := []) (ms := []) T_ok ⟨eo_joined _ (p_joined N), eo_Cut _ (p_Cut N), trivial⟩ trivial trivial rfl (fun _ _ _ _ => rfl) (fun _ _ _ _ _ _ => rfl) rfl
theorem lk_words_3 (N : Nat) : LoopOK (cx_words N) 63 (loopN Tryd.f64 0) := by
  refine loopOK_of (rid := 3) (by kernel_rfl) rfl rfl fun R ds m K r h => ?_
  have h : l_words_3 N ds m K = some r := h
  unfold l_words_3 at h
  split at h
  · exact ⟨N, Eq.trans (S_words_3_ok ..) h⟩
  · cases h
theorem lo_words (N : Nat) : LoopsOK (cx_words N) Tryd.f64.ntmps (bodyOf Tryd.f64) :=
  loopsOK_of (k := 1) (by kernel_rfl) ⟨trivial, lk_words_3 N⟩
theorem p_words (N : Nat) (x0 : Int) (x1 : Int) (x2 : Int) (x3 : List V) (r0 : List V) (r1 : Bool) (h : s_words N x0 x1 x2 x3 = some (r0, r1)) : PureRet Tryd.prog T 64 [.agg [.v (.int .i64 x0) .no, .v (.int .i64 x1) .no, .v (.int .i64 x2) .no], .v (.sl 9 x3) .no] [.v (.sl 9 r0) .no, .v (.bool r1) .no] :=
  pure_of (cx := cx_words N) (by kernel_rfl) (co_words N) Tryd.func64 (by kernel_rfl) (by kernel_rfl) (lo_words N) rfl rfl rfl (rf := r_words) ((s_words_ok N x0 x1 x2 x3).trans h) (fun rs' m h => by
    unfold r_words at h
    split at h
    · cases h; exact ⟨rfl, rfl⟩
    · cases h)
noncomputable def s_rword (N : Nat) (x0 : Int) (x1 : Int) : Option (List UInt8) := br (decide (x0 = 5)) (br (decide (x1 = 255)) (some ([115, 121, 115, 116, 101, 109] : List UInt8)) (br (decide (x0 = 7)) (br (decide (x1 = 2)) (some ([98, 121, 116, 101, 115] : List UInt8)) (br (decide (x1 = 3)) (some ([105, 110, 116, 115] : List UInt8)) (some ([114, 101, 102, 115] : List UInt8)))) (bnd1 (s_rDigits N N x1) fun l0 => some l0))) (br (decide (x0 = 7)) (br (decide (x1 = 2)) (some ([98, 121, 116, 101, 115] : List UInt8)) (br (decide (x1 = 3)) (some ([105, 110, 116, 115] : List UInt8)) (some ([114, 101, 102, 115] : List UInt8)))) (bnd1 (s_rDigits N N x1) fun l1 => some l1))
end Go.Proofs.YtjpmogajlnkihaaDoor.En

/- The printed functions, together. -/

/- Functions of the program in plain Lean, joined to the program by evaluation; printed by a program. -/
namespace Go.Proofs.YtjpmogajlnkihaaDoor.En
open Go Go.Proofs
set_option maxRecDepth 100000
set_option linter.unusedVariables false
noncomputable def e_cText {R : Type} (s : List V → Option (List UInt8)) (ds : List D) (K : List D → Option R) : Option R :=
  match ds with
  | [.v (.sl 23 x0) .no] => bnd1 (s x0) fun r0 => K [.v (.str r0) .no]
  | _ => none
noncomputable def r_cText (rs : List D) (_ : Mem) : Option (List UInt8) :=
  match rs with
  | [.v (.str r0) _] => some (r0)
  | _ => none
noncomputable def F_cText_12 {R : Type} (N : Nat) (vs0 : List V) (vs1 : List V) (n2 : Int) (n3 : Int) (n4 : Int) (n5 : Int) (n6 : Int) (n9 : Int) (n10 : Int) (n11 : Int) (n12 : Int) (n13 : Int) (n14 : Int) (n15 : Int) (Lq : Int → List UInt8 → Option R) (K0 : List UInt8 → Option R) (n7 : Int) (l8 : List UInt8) : Option R := br (decide (n7 < 3)) (br (decide (n7 = 0)) (br (decide (n4 = 0)) (Lq (IntKind.i64.wrap (n7 + 1)) l8) (bnd1 (s_joined N n4) fun b0 => br b0 (br (decide (n7 = 0)) (bnd1 (s_word N n4 n13) fun l1 => br (decide (1 + l1.length ≤ 9223372036854775807)) (bnd2 (s_WriteString N (46 :: [].append l1) l8) fun n2 l3 => Lq (IntKind.i64.wrap (n7 + 1)) l3) none) (br (decide (n7 = 1)) (bnd1 (s_word N n4 n14) fun l4 => br (decide (1 + l4.length ≤ 9223372036854775807)) (bnd2 (s_WriteString N (46 :: [].append l4) l8) fun n5 l6 => Lq (IntKind.i64.wrap (n7 + 1)) l6) none) (br (decide (n7 = 2)) (bnd1 (s_word N n4 n15) fun l7 => br (decide (1 + l7.length ≤ 9223372036854775807)) (bnd2 (s_WriteString N (46 :: [].append l7) l8) fun n8 l9 => Lq (IntKind.i64.wrap (n7 + 1)) l9) none) none))) (br (decide (n7 = 0)) (bnd1 (s_word N n4 n13) fun l10 => br (decide (1 + l10.length ≤ 9223372036854775807)) (bnd2 (s_WriteString N (32 :: [].append l10) l8) fun n11 l12 => Lq (IntKind.i64.wrap (n7 + 1)) l12) none) (br (decide (n7 = 1)) (bnd1 (s_word N n4 n14) fun l13 => br (decide (1 + l13.length ≤ 9223372036854775807)) (bnd2 (s_WriteString N (32 :: [].append l13) l8) fun n14 l15 => Lq (IntKind.i64.wrap (n7 + 1)) l15) none) (br (decide (n7 = 2)) (bnd1 (s_word N n4 n15) fun l16 => br (decide (1 + l16.length ≤ 9223372036854775807)) (bnd2 (s_WriteString N (32 :: [].append l16) l8) fun n17 l18 => Lq (IntKind.i64.wrap (n7 + 1)) l18) none) none))))) (br (decide (n7 = 1)) (br (decide (n5 = 0)) (Lq (IntKind.i64.wrap (n7 + 1)) l8) (bnd1 (s_joined N n5) fun b19 => br b19 (br (decide (n7 = 0)) (bnd1 (s_word N n5 n13) fun l20 => br (decide (1 + l20.length ≤ 9223372036854775807)) (bnd2 (s_WriteString N (46 :: [].append l20) l8) fun n21 l22 => Lq (IntKind.i64.wrap (n7 + 1)) l22) none) (br (decide (n7 = 1)) (bnd1 (s_word N n5 n14) fun l23 => br (decide (1 + l23.length ≤ 9223372036854775807)) (bnd2 (s_WriteString N (46 :: [].append l23) l8) fun n24 l25 => Lq (IntKind.i64.wrap (n7 + 1)) l25) none) (br (decide (n7 = 2)) (bnd1 (s_word N n5 n15) fun l26 => br (decide (1 + l26.length ≤ 9223372036854775807)) (bnd2 (s_WriteString N (46 :: [].append l26) l8) fun n27 l28 => Lq (IntKind.i64.wrap (n7 + 1)) l28) none) none))) (br (decide (n7 = 0)) (bnd1 (s_word N n5 n13) fun l29 => br (decide (1 + l29.length ≤ 9223372036854775807)) (bnd2 (s_WriteString N (32 :: [].append l29) l8) fun n30 l31 => Lq (IntKind.i64.wrap (n7 + 1)) l31) none) (br (decide (n7 = 1)) (bnd1 (s_word N n5 n14) fun l32 => br (decide (1 + l32.length ≤ 9223372036854775807)) (bnd2 (s_WriteString N (32 :: [].append l32) l8) fun n33 l34 => Lq (IntKind.i64.wrap (n7 + 1)) l34) none) (br (decide (n7 = 2)) (bnd1 (s_word N n5 n15) fun l35 => br (decide (1 + l35.length ≤ 9223372036854775807)) (bnd2 (s_WriteString N (32 :: [].append l35) l8) fun n36 l37 => Lq (IntKind.i64.wrap (n7 + 1)) l37) none) none))))) (br (decide (n7 = 2)) (br (decide (n6 = 0)) (Lq (IntKind.i64.wrap (n7 + 1)) l8) (bnd1 (s_joined N n6) fun b38 => br b38 (br (decide (n7 = 0)) (bnd1 (s_word N n6 n13) fun l39 => br (decide (1 + l39.length ≤ 9223372036854775807)) (bnd2 (s_WriteString N (46 :: [].append l39) l8) fun n40 l41 => Lq (IntKind.i64.wrap (n7 + 1)) l41) none) (br (decide (n7 = 1)) (bnd1 (s_word N n6 n14) fun l42 => br (decide (1 + l42.length ≤ 9223372036854775807)) (bnd2 (s_WriteString N (46 :: [].append l42) l8) fun n43 l44 => Lq (IntKind.i64.wrap (n7 + 1)) l44) none) (br (decide (n7 = 2)) (bnd1 (s_word N n6 n15) fun l45 => br (decide (1 + l45.length ≤ 9223372036854775807)) (bnd2 (s_WriteString N (46 :: [].append l45) l8) fun n46 l47 => Lq (IntKind.i64.wrap (n7 + 1)) l47) none) none))) (br (decide (n7 = 0)) (bnd1 (s_word N n6 n13) fun l48 => br (decide (1 + l48.length ≤ 9223372036854775807)) (bnd2 (s_WriteString N (32 :: [].append l48) l8) fun n49 l50 => Lq (IntKind.i64.wrap (n7 + 1)) l50) none) (br (decide (n7 = 1)) (bnd1 (s_word N n6 n14) fun l51 => br (decide (1 + l51.length ≤ 9223372036854775807)) (bnd2 (s_WriteString N (32 :: [].append l51) l8) fun n52 l53 => Lq (IntKind.i64.wrap (n7 + 1)) l53) none) (br (decide (n7 = 2)) (bnd1 (s_word N n6 n15) fun l54 => br (decide (1 + l54.length ≤ 9223372036854775807)) (bnd2 (s_WriteString N (32 :: [].append l54) l8) fun n55 l56 => Lq (IntKind.i64.wrap (n7 + 1)) l56) none) none))))) none))) (K0 l8)
noncomputable def S_cText_12 {R : Type} (N : Nat) (vs0 : List V) (vs1 : List V) (n2 : Int) (n3 : Int) (n4 : Int) (n5 : Int) (n6 : Int) (n9 : Int) (n10 : Int) (n11 : Int) (n12 : Int) (n13 : Int) (n14 : Int) (n15 : Int) : Nat → Int → List UInt8 → (List UInt8 → Option R) → Option R | 0, _, _, _ => none | t + 1, n7, l8, K0 => F_cText_12 N vs0 vs1 n2 n3 n4 n5 n6 n9 n10 n11 n12 n13 n14 n15 (fun n7 l8 => S_cText_12 N vs0 vs1 n2 n3 n4 n5 n6 n9 n10 n11 n12 n13 n14 n15 t n7 l8 K0) K0 n7 l8
noncomputable def l_cText_12 {R : Type} (N : Nat) (ds : List D) (m : Mem) (K : Ex → List D → Mem → Option R) : Option R :=
  match ds, m with
  | [(.ptr 0 5 0), (.v (.sl 9 vs0) .no), (.ptr 0 8 0), (.ptr 0 9 0), (.v (.sl 23 vs1) .no), (.v (.int .i64 n2) .no), (.v (.int .i64 n3) .no), (.agg [(.v (.int .i64 n4) .no), (.v (.int .i64 n5) .no), (.v (.int .i64 n6) .no)]), (.v (.int .i64 n7) .no)], [[(5, ⟨71, [.bld, (.v (.bytes l8) (.own (.slot 0) 5))]⟩), (8, ⟨23, [(.v (.int .i64 n9) .no), (.v (.int .i64 n10) .no), (.v (.int .i64 n11) .no), (.v (.int .i64 n12) .no)]⟩), (9, ⟨57, [(.v (.int .i64 n13) .no), (.v (.int .i64 n14) .no), (.v (.int .i64 n15) .no)]⟩)]] => S_cText_12 N vs0 vs1 n2 n3 n4 n5 n6 n9 n10 n11 n12 n13 n14 n15 N n7 l8 (fun a4 => K (.exit 2) [(.ptr 0 5 0), (.v (.sl 9 vs0) .no), (.ptr 0 8 0), (.ptr 0 9 0), (.v (.sl 23 vs1) .no), (.v (.int .i64 n2) .no), (.v (.int .i64 n3) .no)] [[(5, ⟨71, [.bld, (.v (.bytes a4) (.own (.slot 0) 5))]⟩), (8, ⟨23, [(.v (.int .i64 n9) .no), (.v (.int .i64 n10) .no), (.v (.int .i64 n11) .no), (.v (.int .i64 n12) .no)]⟩), (9, ⟨57, [(.v (.int .i64 n13) .no), (.v (.int .i64 n14) .no), (.v (.int .i64 n15) .no)]⟩)]])
  | _, _ => none
noncomputable def F_cText_7 {R : Type} (N : Nat) (vs0 : List V) (vs1 : List V) (n2 : Int) (Lq : Int → List UInt8 → Option R) (K0 : List UInt8 → Option R) (n3 : Int) (l4 : List UInt8) : Option R := br (decide (n3 < n2)) (br (decide (0 ≤ n3) && decide (n3 < (↑vs1.length : Int))) (at? vs1 n3.toNat fun x0 => x0.unAgg fun l1 => unCons l1 fun x2 l3 => V.unInt IntKind.i64 x2 fun n4 => unCons l3 fun x5 l6 => V.unInt IntKind.i64 x5 fun n7 => unCons l6 fun x8 l9 => V.unInt IntKind.i64 x8 fun n10 => unCons l9 fun x11 l12 => V.unInt IntKind.i64 x11 fun n13 => unNil l12 (br (decide (0 ≤ n4) && decide (n4 < (↑vs0.length : Int))) (at? vs0 n4.toNat fun x14 => x14.unStr fun l15 => bnd2 (s_WriteString N l15 l4) fun n16 l17 => bnd3 (s_operands N n4 n7 n10 n13) fun n18 n19 n20 => bnd3 (s_formOf N n4) fun n21 n22 n23 => S_cText_12 N vs0 vs1 n2 n3 n21 n22 n23 n4 n7 n10 n13 n18 n19 n20 N 0 l17 fun l24 => bnd2 (s_WriteString N ([10] : List UInt8) l24) fun n25 l26 => Lq (IntKind.i64.wrap (n3 + 1)) l26) none)) none) (K0 l4)
noncomputable def S_cText_7 {R : Type} (N : Nat) (vs0 : List V) (vs1 : List V) (n2 : Int) : Nat → Int → List UInt8 → (List UInt8 → Option R) → Option R | 0, _, _, _ => none | t + 1, n3, l4, K0 => F_cText_7 N vs0 vs1 n2 (fun n3 l4 => S_cText_7 N vs0 vs1 n2 t n3 l4 K0) K0 n3 l4
noncomputable def l_cText_7 {R : Type} (N : Nat) (ds : List D) (m : Mem) (K : Ex → List D → Mem → Option R) : Option R :=
  match ds, m with
  | [(.ptr 0 5 0), (.v (.sl 9 vs0) .no), (.v (.sl 23 vs1) .no), (.v (.int .i64 n2) .no), (.v (.int .i64 n3) .no)], [[(5, ⟨71, [.bld, (.v (.bytes l4) (.own (.slot 0) 5))]⟩)]] => S_cText_7 N vs0 vs1 n2 N n3 l4 (fun a0 => K (.exit 0) [(.ptr 0 5 0)] [[(5, ⟨71, [.bld, (.v (.bytes a0) (.own (.slot 0) 5))]⟩)]])
  | _, _ => none
noncomputable def s_cText (N : Nat) (x0 : List V) : Option (List UInt8) := bnd2 (s_cEncode N x0) fun l0 n1 => br (!decide (n1 = 0)) (some []) (bnd1 (s_names N) fun l2 => S_cText_7 N l2 x0 (↑x0.length : Int) N 0 [] fun l3 => bnd1 (s_bString N l3) fun l4 => some l4)
noncomputable def cx_cText (N : Nat) : Cx := { T := T, isPure := tabP [⟨15, e_cEncode (s_cEncode N)⟩, ⟨39, e_names (s_names N)⟩, ⟨32, e_operands (s_operands N)⟩, ⟨33, e_formOf (s_formOf N)⟩, ⟨41, e_joined (s_joined N)⟩, ⟨42, e_word (s_word N)⟩], pureK := fun g ds K => tabK [⟨15, e_cEncode (s_cEncode N)⟩, ⟨39, e_names (s_names N)⟩, ⟨32, e_operands (s_operands N)⟩, ⟨33, e_formOf (s_formOf N)⟩, ⟨41, e_joined (s_joined N)⟩, ⟨42, e_word (s_word N)⟩] g ds K, memK := fun g dst ds m K => tabMK [⟨40, e_WriteString (s_WriteString N)⟩, ⟨43, e_bString (s_bString N)⟩] g dst ds m K, meth := tabM [], keep := fun r => match r with | 7 => [5, 6, 21, 22, 23] | 12 => [5, 6, 8, 9, 21, 22, 23, 37, 38] | _ => [], keepX := fun r => match r with | 7 => [5] | 12 => [5, 6, 8, 9, 21, 22, 23] | _ => [], loopT := fun r ds m K => match r with | 12 => l_cText_12 N ds m K | 7 => l_cText_7 N ds m K | _ => none, jumps := 9 }
theorem F_cText_12_ok {R : Type} (N : Nat) (vs0 : List V) (vs1 : List V) (n2 : Int) (n3 : Int) (n4 : Int) (n5 : Int) (n6 : Int) (n9 : Int) (n10 : Int) (n11 : Int) (n12 : Int) (n13 : Int) (n14 : Int) (n15 : Int) (n7 : Int) (l8 : List UInt8) (L : List D → Mem → Option R) (K : Ex → List D → Mem → Option R) :
    roundK (fun st K => codeK (cx_cText N) (loopN Tryd.f18 1) st K) 58 [5, 6, 8, 9, 21, 22, 23, 37, 38] [5, 6, 8, 9, 21, 22, 23] L [(.ptr 0 5 0), (.v (.sl 9 vs0) .no), (.ptr 0 8 0), (.ptr 0 9 0), (.v (.sl 23 vs1) .no), (.v (.int .i64 n2) .no), (.v (.int .i64 n3) .no), (.agg [(.v (.int .i64 n4) .no), (.v (.int .i64 n5) .no), (.v (.int .i64 n6) .no)]), (.v (.int .i64 n7) .no)] [[(5, ⟨71, [.bld, (.v (.bytes l8) (.own (.slot 0) 5))]⟩), (8, ⟨23, [(.v (.int .i64 n9) .no), (.v (.int .i64 n10) .no), (.v (.int .i64 n11) .no), (.v (.int .i64 n12) .no)]⟩), (9, ⟨57, [(.v (.int .i64 n13) .no), (.v (.int .i64 n14) .no), (.v (.int .i64 n15) .no)]⟩)]] K = F_cText_12 N vs0 vs1 n2 n3 n4 n5 n6 n9 n10 n11 n12 n13 n14 n15 (fun n7 l8 => L [(.ptr 0 5 0), (.v (.sl 9 vs0) .no), (.ptr 0 8 0), (.ptr 0 9 0), (.v (.sl 23 vs1) .no), (.v (.int .i64 n2) .no), (.v (.int .i64 n3) .no), (.agg [(.v (.int .i64 n4) .no), (.v (.int .i64 n5) .no), (.v (.int .i64 n6) .no)]), (.v (.int .i64 n7) .no)] [[(5, ⟨71, [.bld, (.v (.bytes l8) (.own (.slot 0) 5))]⟩), (8, ⟨23, [(.v (.int .i64 n9) .no), (.v (.int .i64 n10) .no), (.v (.int .i64 n11) .no), (.v (.int .i64 n12) .no)]⟩), (9, ⟨57, [(.v (.int .i64 n13) .no), (.v (.int .i64 n14) .no), (.v (.int .i64 n15) .no)]⟩)]]) (fun a4 => K (.exit 2) [(.ptr 0 5 0), (.v (.sl 9 vs0) .no), (.ptr 0 8 0), (.ptr 0 9 0), (.v (.sl 23 vs1) .no), (.v (.int .i64 n2) .no), (.v (.int .i64 n3) .no)] [[(5, ⟨71, [.bld, (.v (.bytes a4) (.own (.slot 0) 5))]⟩), (8, ⟨23, [(.v (.int .i64 n9) .no), (.v (.int .i64 n10) .no), (.v (.int .i64 n11) .no), (.v (.int .i64 n12) .no)]⟩), (9, ⟨57, [(.v (.int .i64 n13) .no), (.v (.int .i64 n14) .no), (.v (.int .i64 n15) .no)]⟩)]]) n7 l8 := by
  kernel_rfl
theorem S_cText_12_ok {R : Type} (N : Nat) (vs0 : List V) (vs1 : List V) (n2 : Int) (n3 : Int) (n4 : Int) (n5 : Int) (n6 : Int) (n9 : Int) (n10 : Int) (n11 : Int) (n12 : Int) (n13 : Int) (n14 : Int) (n15 : Int) (K : Ex → List D → Mem → Option R) : ∀ (t : Nat) (n7 : Int) (l8 : List UInt8),
    loopK (fun st K => codeK (cx_cText N) (loopN Tryd.f18 1) st K) 58 [5, 6, 8, 9, 21, 22, 23, 37, 38] [5, 6, 8, 9, 21, 22, 23] t [(.ptr 0 5 0), (.v (.sl 9 vs0) .no), (.ptr 0 8 0), (.ptr 0 9 0), (.v (.sl 23 vs1) .no), (.v (.int .i64 n2) .no), (.v (.int .i64 n3) .no), (.agg [(.v (.int .i64 n4) .no), (.v (.int .i64 n5) .no), (.v (.int .i64 n6) .no)]), (.v (.int .i64 n7) .no)] [[(5, ⟨71, [.bld, (.v (.bytes l8) (.own (.slot 0) 5))]⟩), (8, ⟨23, [(.v (.int .i64 n9) .no), (.v (.int .i64 n10) .no), (.v (.int .i64 n11) .no), (.v (.int .i64 n12) .no)]⟩), (9, ⟨57, [(.v (.int .i64 n13) .no), (.v (.int .i64 n14) .no), (.v (.int .i64 n15) .no)]⟩)]] K = S_cText_12 N vs0 vs1 n2 n3 n4 n5 n6 n9 n10 n11 n12 n13 n14 n15 t n7 l8 (fun a4 => K (.exit 2) [(.ptr 0 5 0), (.v (.sl 9 vs0) .no), (.ptr 0 8 0), (.ptr 0 9 0), (.v (.sl 23 vs1) .no), (.v (.int .i64 n2) .no), (.v (.int .i64 n3) .no)] [[(5, ⟨71, [.bld, (.v (.bytes a4) (.own (.slot 0) 5))]⟩), (8, ⟨23, [(.v (.int .i64 n9) .no), (.v (.int .i64 n10) .no), (.v (.int .i64 n11) .no), (.v (.int .i64 n12) .no)]⟩), (9, ⟨57, [(.v (.int .i64 n13) .no), (.v (.int .i64 n14) .no), (.v (.int .i64 n15) .no)]⟩)]])
  | 0, n7, l8 => rfl
  | t + 1, n7, l8 => (F_cText_12_ok N vs0 vs1 n2 n3 n4 n5 n6 n9 n10 n11 n12 n13 n14 n15 n7 l8 _ K).trans (congrArg (fun L => F_cText_12 N vs0 vs1 n2 n3 n4 n5 n6 n9 n10 n11 n12 n13 n14 n15 L (fun a4 => K (.exit 2) [(.ptr 0 5 0), (.v (.sl 9 vs0) .no), (.ptr 0 8 0), (.ptr 0 9 0), (.v (.sl 23 vs1) .no), (.v (.int .i64 n2) .no), (.v (.int .i64 n3) .no)] [[(5, ⟨71, [.bld, (.v (.bytes a4) (.own (.slot 0) 5))]⟩), (8, ⟨23, [(.v (.int .i64 n9) .no), (.v (.int .i64 n10) .no), (.v (.int .i64 n11) .no), (.v (.int .i64 n12) .no)]⟩), (9, ⟨57, [(.v (.int .i64 n13) .no), (.v (.int .i64 n14) .no), (.v (.int .i64 n15) .no)]⟩)]]) n7 l8) (funext fun n7 => funext fun l8 => S_cText_12_ok N vs0 vs1 n2 n3 n4 n5 n6 n9 n10 n11 n12 n13 n14 n15 K t n7 l8))
theorem F_cText_7_ok {R : Type} (N : Nat) (vs0 : List V) (vs1 : List V) (n2 : Int) (n3 : Int) (l4 : List UInt8) (L : List D → Mem → Option R) (K : Ex → List D → Mem → Option R) :
    roundK (fun st K => codeK (cx_cText N) (loopN Tryd.f18 0) st K) 58 [5, 6, 21, 22, 23] [5] L [(.ptr 0 5 0), (.v (.sl 9 vs0) .no), (.v (.sl 23 vs1) .no), (.v (.int .i64 n2) .no), (.v (.int .i64 n3) .no)] [[(5, ⟨71, [.bld, (.v (.bytes l4) (.own (.slot 0) 5))]⟩)]] K = F_cText_7 N vs0 vs1 n2 (fun n3 l4 => L [(.ptr 0 5 0), (.v (.sl 9 vs0) .no), (.v (.sl 23 vs1) .no), (.v (.int .i64 n2) .no), (.v (.int .i64 n3) .no)] [[(5, ⟨71, [.bld, (.v (.bytes l4) (.own (.slot 0) 5))]⟩)]]) (fun a0 => K (.exit 0) [(.ptr 0 5 0)] [[(5, ⟨71, [.bld, (.v (.bytes a0) (.own (.slot 0) 5))]⟩)]]) n3 l4 := by
  kernel_rfl
theorem S_cText_7_ok {R : Type} (N : Nat) (vs0 : List V) (vs1 : List V) (n2 : Int) (K : Ex → List D → Mem → Option R) : ∀ (t : Nat) (n3 : Int) (l4 : List UInt8),
    loopK (fun st K => codeK (cx_cText N) (loopN Tryd.f18 0) st K) 58 [5, 6, 21, 22, 23] [5] t [(.ptr 0 5 0), (.v (.sl 9 vs0) .no), (.v (.sl 23 vs1) .no), (.v (.int .i64 n2) .no), (.v (.int .i64 n3) .no)] [[(5, ⟨71, [.bld, (.v (.bytes l4) (.own (.slot 0) 5))]⟩)]] K = S_cText_7 N vs0 vs1 n2 t n3 l4 (fun a0 => K (.exit 0) [(.ptr 0 5 0)] [[(5, ⟨71, [.bld, (.v (.bytes a0) (.own (.slot 0) 5))]⟩)]])
  | 0, n3, l4 => rfl
  | t + 1, n3, l4 => (F_cText_7_ok N vs0 vs1 n2 n3 l4 _ K).trans (congrArg (fun L => F_cText_7 N vs0 vs1 n2 L (fun a0 => K (.exit 0) [(.ptr 0 5 0)] [[(5, ⟨71, [.bld, (.v (.bytes a0) (.own (.slot 0) 5))]⟩)]]) n3 l4) (funext fun n3 => funext fun l4 => S_cText_7_ok N vs0 vs1 n2 K t n3 l4))
theorem s_cText_ok (N : Nat) (x0 : List V) : bodyK (cx_cText N) Tryd.f18 [.v (.sl 23 x0) .no] [] r_cText = s_cText N x0 := by
  kernel_rfl
theorem go_cText : Goes Tryd.prog 18 := goes_of Tryd.func18 (by kernel_rfl) (c := bodyOf Tryd.f18) (by kernel_rfl)
theorem eo_cText (s : List V → Option (List UInt8)) (hs : ∀ (x0 : List V) (r0 : List UInt8), s x0 = some r0 → PureRet Tryd.prog T 18 [.v (.sl 23 x0) .no] [.v (.str r0) .no]) : EntOK Tryd.prog T ⟨18, e_cText s⟩ := by
  refine ⟨go_cText, fun R ds K r h => ?_, fun R ds K => ?_⟩
  · simp only [e_cText] at h
    split at h
    · obtain ⟨r0, h1, h2⟩ := bnd1_some h
      exact ⟨_, h2, hs _ _ h1⟩
    · cases h
  · simp only [e_cText]
    split
    · rw [bnd1_b]; rfl
    · rfl
theorem co_cText (N : Nat) : CxOK Tryd.prog (cx_cText N) :=
  cxOK_of2 (es := [⟨15, e_cEncode (s_cEncode N)⟩, ⟨39, e_names (s_names N)⟩, ⟨32, e_operands (s_operands N)⟩, ⟨33, e_formOf (s_formOf N)⟩, ⟨41, e_joined (s_joined N)⟩, ⟨42, e_word (s_word N)⟩]) (me := [⟨40, e_WriteString (s_WriteString N)⟩, ⟨43, e_bString (s_bString N)⟩]) (ms := []) T_ok ⟨eo_cEncode _ (p_cEncode N), eo_names _ (p_names N), eo_operands _ (p_operands N), eo_formOf _ (p_formOf N), eo_joined _ (p_joined N), eo_word _ (p_word N), trivial⟩ ⟨eo_WriteString _ (p_WriteString N), eo_bString _ (p_bString N), trivial⟩ trivial rfl (fun _ _ _ _ => rfl) (fun _ _ _ _ _ _ => rfl) rfl
theorem lk_cText_7 (N : Nat) : LoopOK (cx_cText N) 58 (loopN Tryd.f18 0) := by
  refine loopOK_of (rid := 7) (by kernel_rfl) rfl rfl fun R ds m K r h => ?_
  have h : l_cText_7 N ds m K = some r := h
  unfold l_cText_7 at h
  split at h
  · exact ⟨N, Eq.trans (S_cText_7_ok ..) h⟩
  · cases h
theorem lk_cText_12 (N : Nat) : LoopOK (cx_cText N) 58 (loopN Tryd.f18 1) := by
  refine loopOK_of (rid := 12) (by kernel_rfl) rfl rfl fun R ds m K r h => ?_
  have h : l_cText_12 N ds m K = some r := h
  unfold l_cText_12 at h
  split at h
  · exact ⟨N, Eq.trans (S_cText_12_ok ..) h⟩
  · cases h
theorem lo_cText (N : Nat) : LoopsOK (cx_cText N) Tryd.f18.ntmps (bodyOf Tryd.f18) :=
  loopsOK_of (k := 2) (by kernel_rfl) ⟨⟨trivial, lk_cText_7 N⟩, lk_cText_12 N⟩
theorem p_cText (N : Nat) (x0 : List V) (r0 : List UInt8) (h : s_cText N x0 = some r0) : PureRet Tryd.prog T 18 [.v (.sl 23 x0) .no] [.v (.str r0) .no] :=
  pure_of (cx := cx_cText N) (by kernel_rfl) (co_cText N) Tryd.func18 (by kernel_rfl) (by kernel_rfl) (lo_cText N) rfl rfl rfl (rf := r_cText) ((s_cText_ok N x0).trans h) (fun rs' m h => by
    unfold r_cText at h
    split at h
    · cases h; exact ⟨rfl, rfl⟩
    · cases h)
noncomputable def e_rNext {R : Type} (s : Int → Int → Int → Int → Int → Option (List V)) (ds : List D) (K : List D → Option R) : Option R :=
  match ds with
  | [.agg [.v (.int .i64 x0) .no, .v (.int .i64 x1) .no, .v (.int .i64 x2) .no, .v (.int .i64 x3) .no], .v (.int .i64 x4) .no] => bnd1 (s x0 x1 x2 x3 x4) fun r0 => K [.v (.sl 3 r0) .no]
  | _ => none
noncomputable def r_rNext (rs : List D) (_ : Mem) : Option (List V) :=
  match rs with
  | [.v (.sl 3 r0) _] => some (r0)
  | _ => none
noncomputable def s_rNext (N : Nat) (x0 : Int) (x1 : Int) (x2 : Int) (x3 : Int) (x4 : Int) : Option (List V) := bnd1 (s_rCheck N x0 x1 x2 x3) fun n0 => br (!decide (n0 = 0)) (some []) (br (decide (x4 < 0)) (some []) (br (decide (256 ≤ x4)) (some []) (br (decide (x0 = 49)) (some []) (br (decide (x0 = 50)) (some []) (br (decide (x0 = 21)) (some [V.int IntKind.i64 x1]) (br (decide (x0 < 22)) (some [V.int IntKind.i64 (IntKind.i64.wrap (x4 + 1))]) (br (decide (32 < x0)) (some [V.int IntKind.i64 (IntKind.i64.wrap (x4 + 1))]) (br (decide (x1 = IntKind.i64.wrap (x4 + 1))) (some [V.int IntKind.i64 (IntKind.i64.wrap (x4 + 1))]) (br (decide (x1 < IntKind.i64.wrap (x4 + 1))) (some [V.int IntKind.i64 x1, V.int IntKind.i64 (IntKind.i64.wrap (x4 + 1))]) (some [V.int IntKind.i64 (IntKind.i64.wrap (x4 + 1)), V.int IntKind.i64 x1]))))))))))
noncomputable def cx_rNext (N : Nat) : Cx := { T := T, isPure := tabP [⟨13, e_rCheck (s_rCheck N)⟩], pureK := fun g ds K => tabK [⟨13, e_rCheck (s_rCheck N)⟩] g ds K, memK := fun g dst ds m K => tabMK [] g dst ds m K, meth := tabM [], keep := fun _ => [], keepX := fun _ => [], loopT := fun _ _ _ _ => none, jumps := 9 }
theorem s_rNext_ok (N : Nat) (x0 : Int) (x1 : Int) (x2 : Int) (x3 : Int) (x4 : Int) : bodyK (cx_rNext N) Tryd.f31 [.agg [.v (.int .i64 x0) .no, .v (.int .i64 x1) .no, .v (.int .i64 x2) .no, .v (.int .i64 x3) .no], .v (.int .i64 x4) .no] [] r_rNext = s_rNext N x0 x1 x2 x3 x4 := by
  kernel_rfl
theorem go_rNext : Goes Tryd.prog 31 := goes_of Tryd.func31 (by kernel_rfl) (c := bodyOf Tryd.f31) (by kernel_rfl)
theorem eo_rNext (s : Int → Int → Int → Int → Int → Option (List V)) (hs : ∀ (x0 : Int) (x1 : Int) (x2 : Int) (x3 : Int) (x4 : Int) (r0 : List V), s x0 x1 x2 x3 x4 = some r0 → PureRet Tryd.prog T 31 [.agg [.v (.int .i64 x0) .no, .v (.int .i64 x1) .no, .v (.int .i64 x2) .no, .v (.int .i64 x3) .no], .v (.int .i64 x4) .no] [.v (.sl 3 r0) .no]) : EntOK Tryd.prog T ⟨31, e_rNext s⟩ := by
  refine ⟨go_rNext, fun R ds K r h => ?_, fun R ds K => ?_⟩
  · simp only [e_rNext] at h
    split at h
    · obtain ⟨r0, h1, h2⟩ := bnd1_some h
      exact ⟨_, h2, hs _ _ _ _ _ _ h1⟩
    · cases h
  · simp only [e_rNext]
    split
    · rw [bnd1_b]; rfl
    · rfl
theorem co_rNext (N : Nat) : CxOK Tryd.prog (cx_rNext N) :=
  cxOK_of2 (es := [⟨13, e_rCheck (s_rCheck N)⟩]) (me := []) (ms := []) T_ok ⟨eo_rCheck _ (p_rCheck N), trivial⟩ trivial trivial rfl (fun _ _ _ _ => rfl) (fun _ _ _ _ _ _ => rfl) rfl
theorem lo_rNext (N : Nat) : LoopsOK (cx_rNext N) Tryd.f31.ntmps (bodyOf Tryd.f31) :=
  loopsOK_of (k := 0) (by kernel_rfl) trivial
theorem p_rNext (N : Nat) (x0 : Int) (x1 : Int) (x2 : Int) (x3 : Int) (x4 : Int) (r0 : List V) (h : s_rNext N x0 x1 x2 x3 x4 = some r0) : PureRet Tryd.prog T 31 [.agg [.v (.int .i64 x0) .no, .v (.int .i64 x1) .no, .v (.int .i64 x2) .no, .v (.int .i64 x3) .no], .v (.int .i64 x4) .no] [.v (.sl 3 r0) .no] :=
  pure_of (cx := cx_rNext N) (by kernel_rfl) (co_rNext N) Tryd.func31 (by kernel_rfl) (by kernel_rfl) (lo_rNext N) rfl rfl rfl (rf := r_rNext) ((s_rNext_ok N x0 x1 x2 x3 x4).trans h) (fun rs' m h => by
    unfold r_rNext at h
    split at h
    · cases h; exact ⟨rfl, rfl⟩
    · cases h)
end Go.Proofs.YtjpmogajlnkihaaDoor.En

/- The printed functions, together. -/

/- Words for memory that the walks of this seat share: slices of bytes, slices of slices, appending to a row of the call's own. No program in sight. -/
namespace Go.Proofs.YtjpmogajlnkihaaDoor
open Go.RowKit

def u8 (b : UInt8) : Value := .int .u8 (b.toNat : Int)

/-- Place k of the row at A holds v. -/
def At (w : World) (A : Option Addr) (k : Nat) (v : Value) : Prop := ∃ b off, A = some ⟨b, off, none⟩ ∧ w.cell? ⟨b, off + k, none⟩ = some v

theorem At.keep {w w' : World} {A : Option Addr} {k : Nat} {v : Value} (h : At w A k v) (hk : ∀ p : Addr, p.block < w.heap.size → w'.cell? p = w.cell? p) : At w' A k v := by
  obtain ⟨b, off, rfl, hc⟩ := h
  exact ⟨b, off, rfl, (hk _ (World.block_lt_of_cell? w _ hc)).trans hc⟩
theorem At.below {w w' : World} {A : Option Addr} {k : Nat} {v : Value} (h : At w A k v) (hb : Below w.heap.size w w') : At w' A k v := h.keep fun _ hp => hb.cell hp

/-- A slice value reads as the row of values vs. -/
structure Rd (w : World) (A : Option Addr) (n c : Nat) (vs : List Value) : Prop where
  len : vs.length = n
  cap : n ≤ c
  max : c ≤ maxLen
  at_ : ∀ k v, vs[k]? = some v → At w A k v

/-- A slice of bytes reads as xs. -/
abbrev IsB (w : World) (A : Option Addr) (n c : Nat) (xs : List UInt8) : Prop := Rd w A n c (xs.map u8)

section
variable {w w' : World} {A : Option Addr} {n c : Nat} {vs : List Value} {xs : List UInt8}
theorem Rd.nil : Rd w none 0 0 [] := ⟨rfl, Nat.le_refl _, Nat.zero_le _, fun k v h => by simp at h⟩
theorem Rd.empty (A : Option Addr) (hc : c ≤ maxLen) : Rd w A 0 c [] := ⟨rfl, Nat.zero_le _, hc, fun k v h => by simp at h⟩
theorem Rd.keep (h : Rd w A n c vs) (hk : ∀ p : Addr, p.block < w.heap.size → w'.cell? p = w.cell? p) : Rd w' A n c vs :=
  ⟨h.len, h.cap, h.max, fun k v hv => (h.at_ k v hv).keep hk⟩
theorem Rd.below (h : Rd w A n c vs) (hb : Below w.heap.size w w') : Rd w' A n c vs := h.keep fun _ hp => hb.cell hp
theorem Rd.drew (h : Rd w A n c vs) : Rd w.drew A n c vs := ⟨h.len, h.cap, h.max, h.at_⟩
theorem Rd.drewN (h : Rd w A n c vs) (k : Nat) : Rd (w.drewN k) A n c vs := ⟨h.len, h.cap, h.max, h.at_⟩
theorem Rd.alloc (h : Rd w A n c vs) (o : Obj) : Rd (w.alloc o) A n c vs := h.keep fun p hp => World.cell?_alloc_lt w o p hp
theorem IsB.len (h : IsB w A n c xs) : xs.length = n := by simpa using Rd.len h
theorem IsB.at_ (h : IsB w A n c xs) {k : Nat} (hk : k < n) : ∃ x b off, Hid (xs[k]? = some x) ∧ A = some ⟨b, off, none⟩ ∧ w.cell? ⟨b, off + k, none⟩ = some (.int .u8 (x.toNat : Int)) ∧ (x.toNat : Int) < 256 := by
  have hl : k < xs.length := by have := IsB.len h; omega
  obtain ⟨b, off, hA, hc⟩ := Rd.at_ h k (u8 xs[k]) (by simp [hl])
  exact ⟨xs[k], b, off, List.getElem?_eq_getElem hl, hA, hc, by have := UInt8.toNat_lt xs[k]; omega⟩
theorem IsB.cells (h : IsB w A n c xs) (hn : 0 < n) : ∃ b off, A = some ⟨b, off, none⟩ ∧ ∀ k x, xs[k]? = some x → w.cell? ⟨b, off + k, none⟩ = some (.int .u8 (x.toNat : Int)) := by
  obtain ⟨x, b, off, _, rfl, _⟩ := IsB.at_ h hn
  refine ⟨b, off, rfl, fun k y hk => ?_⟩
  obtain ⟨b', off', hA, hc⟩ := Rd.at_ h k (u8 y) (by simp [hk])
  injection hA with hA
  injection hA with e1 e2
  subst e1 e2
  exact hc
/-- s[k:] -/
theorem Rd.cut (h : Rd w A n c vs) {k : Nat} (hk : k ≤ n) : Rd w (if c = k then A else A.map (·.add k)) (n - k) (c - k) (vs.drop k) := by
  refine ⟨by rw [List.length_drop, h.len], by have := h.cap; omega, by have := h.max; omega, fun j v hv => ?_⟩
  rw [List.getElem?_drop] at hv
  obtain ⟨b, off, rfl, hc⟩ := h.at_ _ v hv
  have hkj : k + j < n := by have := (List.getElem?_eq_some_iff.1 hv).1; rw [h.len] at this; exact this
  have hcap := h.cap
  rw [if_neg (by omega)]
  by_cases h0 : k = 0
  · subst h0; exact ⟨b, off, by simp [Addr.add], by simpa using hc⟩
  · exact ⟨b, off + k, by simp [Addr.add, h0], by rw [Nat.add_assoc]; exact hc⟩
/-- s[:k] -/
theorem Rd.take (h : Rd w A n c vs) {k : Nat} (hk : k ≤ n) : Rd w A k c (vs.take k) := by
  refine ⟨by rw [List.length_take, h.len]; omega, by have := h.cap; omega, h.max, fun j v hv => ?_⟩
  by_cases hj : j < k
  · rw [List.getElem?_take_of_lt hj] at hv
    exact h.at_ j v hv
  · rw [List.getElem?_eq_none (by rw [List.length_take]; omega)] at hv; cases hv
theorem IsB.cut (h : IsB w A n c xs) {k : Nat} (hk : k ≤ n) : IsB w (if c = k then A else A.map (·.add k)) (n - k) (c - k) (xs.drop k) := by
  have := Rd.cut h hk
  rwa [← List.map_drop] at this
theorem IsB.take (h : IsB w A n c xs) {k : Nat} (hk : k ≤ n) : IsB w A k c (xs.take k) := by
  have := Rd.take h hk
  rwa [← List.map_take] at this
end

/-- A slice of slices of bytes reads as ls. -/
structure IsBB (w : World) (A : Option Addr) (n c : Nat) (ls : List (List UInt8)) : Prop where
  len : ls.length = n
  cap : n ≤ c
  max : c ≤ maxLen
  at_ : ∀ k l, ls[k]? = some l → ∃ A' n' c', At w A k (.slice A' n' c') ∧ IsB w A' n' c' l
theorem IsBB.keep {w w' : World} {A : Option Addr} {n c : Nat} {ls : List (List UInt8)} (h : IsBB w A n c ls) (hk : ∀ p : Addr, p.block < w.heap.size → w'.cell? p = w.cell? p) : IsBB w' A n c ls :=
  ⟨h.len, h.cap, h.max, fun k l hl => let ⟨A', n', c', h1, h2⟩ := h.at_ k l hl; ⟨A', n', c', h1.keep hk, Rd.keep h2 hk⟩⟩
theorem IsBB.below {w w' : World} {A : Option Addr} {n c : Nat} {ls : List (List UInt8)} (h : IsBB w A n c ls) (hb : Below w.heap.size w w') : IsBB w' A n c ls := h.keep fun _ hp => hb.cell hp

theorem cell_new (w : World) (vs : List Value) (e : TypeId) (k : Nat) : (w.alloc (.cells vs.toArray e)).cell? ⟨w.heap.size, k, none⟩ = vs[k]? := by
  rw [cell_of_row _ _ k vs.toArray e (0, 0) (heap_alloc_new w _)]; simp
/-- A slice value that owns its row, from block B on. -/
abbrev Own (w : World) (B : Nat) (e : TypeId) (A : Option Addr) (n c : Nat) (vs : List Value) : Prop := w.ownsRow B e 1 (.slice A n c) n vs

section
variable {w w' : World} {B n c : Nat} {e : TypeId} {A : Option Addr} {vs : List Value}
theorem Own.rd (h : Own w B e A n c vs) : Rd w A n c vs := by
  have hl := h.1
  rcases h.2 with ⟨hv, hn⟩ | ⟨g, cap, cur, hv, hb, hg, hnc, hcm, hcs, htk⟩
  · injection hv with h1 h2 h3
    subst h1 h2 h3
    have : vs = [] := List.eq_nil_of_length_eq_zero (by simpa using hl)
    subst this
    exact Rd.nil
  · injection hv with h1 h2 h3
    subst h1 h3
    refine ⟨by simpa using hl, hnc, hcm, fun k v hk => ⟨g, 0, rfl, ?_⟩⟩
    have hlt : k < n * 1 := by have := (List.getElem?_eq_some_iff.1 hk).1; rw [hl] at this; exact this
    rw [Nat.zero_add, World.ownsRow.cellAt h k hlt]
    exact hk
theorem Own.nil (B : Nat) (e : TypeId) : Own w B e none 0 0 [] := World.ownsRow_nil w B e 1
theorem Own.form {v : Value} (h : w.ownsRow B e 1 v n vs) : ∃ A c, v = .slice A n c ∧ Own w B e A n c vs ∧ (∀ k, v.ownBlock = some k → B ≤ k ∧ k < w.heap.size) := by
  have hlt := h.lt
  rcases h.2 with ⟨hv, hn⟩ | ⟨g, cap, cur, hv, _⟩
  · subst hv hn; exact ⟨none, 0, rfl, h, hlt⟩
  · subst hv; exact ⟨_, _, rfl, h, hlt⟩
theorem Own.block (h : Own w B e A n c vs) : ∀ k, (Value.slice A n c).ownBlock = some k → B ≤ k := fun k hk => (h.lt k hk).1
theorem Own.below (h : Own w B e A n c vs) (hb : Below w.heap.size w w') : Own w' B e A n c vs := by
  refine ⟨h.1, ?_⟩
  rcases h.2 with h2 | ⟨g, cap, cur, hv, hg, hh, r⟩
  · exact .inl h2
  · refine .inr ⟨g, cap, cur, hv, hg, ?_, r⟩
    rw [hb.block g (Array.getElem?_eq_some_iff.1 hh).1]; exact hh
theorem Own.base (h : Own w B e A n c vs) {B' : Nat} (hB : B' ≤ B) : Own w B' e A n c vs := by
  refine ⟨h.1, ?_⟩
  rcases h.2 with h2 | ⟨g, cap, cur, hv, hg, hh, r⟩
  · exact .inl h2
  · exact .inr ⟨g, cap, cur, hv, by omega, hh, r⟩
end

/-- append(s, x...): s owns its row; x reads as news, wherever it lies. -/
theorem run_append_rd {P : Program} (w : World) (B : Nat) (t ty e : TypeId) (i : TypeInfo) (z : Value) (bytes : Nat) (ht : P.underlying t = some (.slice e)) (hi : P.info? e = some i) (hz : i.zero = some z)
    (hsize : i.size = 1) (hby : i.bytes = bytes) (hzs : z.cells.size = 1)
    (A : Option Addr) (n c : Nat) (xs : List Value) (hown : Own w B e A n c xs)
    (A' : Option Addr) (m c' : Nat) (news : List Value) (hr : Rd w A' m c' news) (h1 : ∀ u ∈ news, u.oneCell' = true)
    (hbytes : (n + m) * bytes ≤ 140737488355328) (hb0 : 0 < bytes) (hbase : B ≤ w.heap.size) :
    ∃ A2 c2 w', (Builtin.append_ #[t, t] ty #[.slice A n c, .slice A' m c']).run P w = .ok (.slice A2 (n + m) c2) w' ∧ Own w' B e A2 (n + m) c2 (xs ++ news) ∧ w.grownBy w' (Value.slice A n c).ownBlock ∧
      ((Value.slice A2 (n + m) c2).ownBlock = (Value.slice A n c).ownBlock ∨ (Value.slice A2 (n + m) c2).ownBlock = some w.heap.size) := by
  have h63 : n + m ≤ maxLen := by
    have h2 : (n + m) * 1 ≤ (n + m) * bytes := Nat.mul_le_mul_left _ hb0
    unfold maxLen; omega
  by_cases hm : m = 0
  · subst hm
    have hn : news = [] := List.eq_nil_of_length_eq_zero hr.len
    subst hn
    refine ⟨A, c, w, ?_, by simpa using hown, World.grownBy.refl w _, .inl rfl⟩
    rcases hown.2 with ⟨hv, hn0⟩ | ⟨g, cap, cur, hv, _, _, hnc, _⟩
    · injection hv with a1 a2 a3
      subst a1 a2 a3
      cases A' <;> simp [Builtin.append_, run_underlying ht, sizeOf, typeInfo, hi, Builtin.lenOf, Builtin.firstCells, loadCells, loadCellsFrom]
    · injection hv with a1 a2 a3
      subst a1 a3
      cases A' <;> simp [Builtin.append_, run_underlying ht, sizeOf, typeInfo, hi, Builtin.lenOf, Builtin.firstCells, hnc, storeCells, loadCells, loadCellsFrom]
  · have hpos : 0 < news.length := by rw [hr.len]; omega
    obtain ⟨b, off, rfl, _⟩ := hr.at_ 0 _ (List.getElem?_eq_getElem hpos)
    have hnews : ∀ j u, news[j]? = some u → w.cell? ((⟨b, off, none⟩ : Addr).add j) = some u := by
      intro j u hu
      obtain ⟨b', off', he, hc⟩ := hr.at_ j u hu
      injection he with he
      injection he with e1 e2
      subst e1 e2
      by_cases hj : j = 0
      · subst hj; simpa [Addr.add] using hc
      · simpa [Addr.add, hj] using hc
    obtain ⟨v', w', hrun, h2, h3, _, h5⟩ := run_append_own_at (P := P) w B t ty e i z 1 bytes ht hi hz hsize hby hzs (by omega) (.slice A n c) n xs hown ⟨b, off, none⟩ m c' news (by rw [hr.len]; omega) hnews h1 h63 hbytes hbase
    obtain ⟨A2, c2, rfl, h6, _⟩ := Own.form h2
    exact ⟨A2, c2, w', hrun, h6, h3, h5⟩

theorem wp_append_rd {P : Program} (w : World) {o : Oper} {a : Act} {K : Act → World → Prop} {Q : Exit → Act → World → Prop} (s x : Operand) (t : TypeId)
    (ho : o.op = .call { callee := .builtin .append, args := #[s, x], argTypes := #[t, t] })
    (B : Nat) (e : TypeId) (i : TypeInfo) (z : Value) (bytes : Nat) (ht : P.underlying t = some (.slice e)) (hi : P.info? e = some i) (hz : i.zero = some z)
    (hsize : i.size = 1) (hby : i.bytes = bytes) (hzs : z.cells.size = 1)
    (A : Option Addr) (n c : Nat) (xs : List Value) (hs : a.eval s = .slice A n c) (hown : Own w B e A n c xs)
    (A' : Option Addr) (m c' : Nat) (news : List Value) (hx : a.eval x = .slice A' m c') (hr : Rd w A' m c' news) (h1 : ∀ u ∈ news, u.oneCell' = true)
    (hbytes : (n + m) * bytes ≤ 140737488355328) (hb0 : 0 < bytes) (hbase : B ≤ w.heap.size)
    (h : ∀ A2 c2 w', Own w' B e A2 (n + m) c2 (xs ++ news) → w.grownBy w' (Value.slice A n c).ownBlock → ((Value.slice A2 (n + m) c2).ownBlock = (Value.slice A n c).ownBlock ∨ (Value.slice A2 (n + m) c2).ownBlock = some w.heap.size) → K (a.put o.dst (.slice A2 (n + m) c2)) w') : o.wp P a w K Q := by
  obtain ⟨A2, c2, w', hrun, h2, h3, h4⟩ := run_append_rd (P := P) w B t o.type e i z bytes ht hi hz hsize hby hzs A n c xs hown A' m c' news hr h1 hbytes hb0 hbase
  unfold Oper.wp execOp
  simp only [ho, resolve, invoke, builtin, Sem.run_bind, Sem.run_pure, Result.andThen_ok, List.map_toArray, List.map_cons, List.map_nil, hs, hx, hrun]
  exact h A2 c2 w' h2 h3 h4

theorem wpList_append_rd {P : Program} (w : World) {ops : Array Oper} {rest : List Oper} {o : Oper} {a : Act} {Q : Exit → Act → World → Prop} (hgd : o.guard = none) (s x : Operand) (t : TypeId)
    (ho : o.op = .call { callee := .builtin .append, args := #[s, x], argTypes := #[t, t] })
    (B : Nat) (e : TypeId) (i : TypeInfo) (z : Value) (bytes : Nat) (ht : P.underlying t = some (.slice e)) (hi : P.info? e = some i) (hz : i.zero = some z)
    (hsize : i.size = 1) (hby : i.bytes = bytes) (hzs : z.cells.size = 1)
    (A : Option Addr) (n c : Nat) (xs : List Value) (hs : a.eval s = .slice A n c) (hown : Own w B e A n c xs)
    (A' : Option Addr) (m c' : Nat) (news : List Value) (hx : a.eval x = .slice A' m c') (hr : Rd w A' m c' news) (h1 : ∀ u ∈ news, u.oneCell' = true)
    (hbytes : (n + m) * bytes ≤ 140737488355328) (hb0 : 0 < bytes) (hbase : B ≤ w.heap.size)
    (h : ∀ A2 c2 w', Own w' B e A2 (n + m) c2 (xs ++ news) → w.grownBy w' (Value.slice A n c).ownBlock → ((Value.slice A2 (n + m) c2).ownBlock = (Value.slice A n c).ownBlock ∨ (Value.slice A2 (n + m) c2).ownBlock = some w.heap.size) → wpList P ops Q rest (a.put o.dst (.slice A2 (n + m) c2)) w') : wpList P ops Q (o :: rest) a w :=
  wpList_plain hgd fun _ hK => wp_append_rd w s x t ho B e i z bytes ht hi hz hsize hby hzs A n c xs hs hown A' m c' news hx hr h1 hbytes hb0 hbase fun A2 c2 w' h2 h3 h4 => hK _ _ (h A2 c2 w' h2 h3 h4)

/-- A result that lies in a variable of several cells. -/
theorem results_cell_mid {P : Program} {fn : Func} {p : Tmp} {ty : TypeId} (h : fn.results = #[.cell p ty]) (tmps : Array Value) (w : World) (b o : Nat) (cs : List Value) (d : TypeDesc)
    (hp : tmps.getD p undef = .pointer (some ⟨b, o, none⟩)) (hc : w.rangeAt b o cs)
    (hu : P.underlying ty = some d) (hd : d.isRow = true) (hi : (P.info? ty).map (·.size) = some cs.length) :
    (results fn tmps).run P w = .ok (.agg cs.toArray) w := by
  have hp' : tmps[p]?.getD undef = .pointer (some ⟨b, o, none⟩) := by simpa using hp
  simp [results, h, hp', asAddr, run_loadVar_mid w b o ty cs d hc hu hd hi]
end Go.Proofs.YtjpmogajlnkihaaDoor

/- code.number: a loop by goto, walked by hand; as an entry of the engine (the frame is printed by wip/gen/number.py). -/
namespace Go.Proofs.YtjpmogajlnkihaaDoor.En
open Go Go.RowKit
set_option linter.unusedVariables false
def scanN : List UInt8 → Int → Option Int
  | [], n => some n
  | b :: r, n => bif Nat.blt b.toNat 48 || Nat.blt 57 b.toNat then none else scanN r (bif decide (n ≤ 2147483648) then 10 * n + ((b.toNat : Int) - 48) else n)
def finN (neg : Bool) : Option Int → Int × Bool × Bool
  | none => (0, false, false)
  | some n => match (bif neg then -n else n) with | m => (m, true, decide (-2147483648 ≤ m) && decide (m ≤ 2147483647))
def numF (s : List UInt8) : Int × Bool × Bool :=
  match s with
  | [] => (0, false, false)
  | b :: r => bif b == 45
    then (match r with | [] => (0, false, false) | c :: _ => bif c == 48 then (0, false, false) else finN true (scanN r 0))
    else (bif b == 48 && Nat.blt 0 r.length then (0, false, false) else finN false (scanN (b :: r) 0))

/-- The frame of number: s, the result's block, at, negative, n; the rest does not matter. -/
def FrN (s : List UInt8) (B : Nat) (at_ : Int) (neg : Bool) (n : Int) (a : Act) : Prop := ∃ (u1 u6 u7 u8 u9 u10 u11 u12 u13 u14 u15 u16 u17 u18 u19 u20 u21 u22 u23 u24 u25 u26 u27 u28 u29 u30 u31 u32 u33 u34 u35 u36 u37 u38 u39 u40 u41 u42 u43 u44 u45 u46 u47 u48 u49 u50 u51 u52 u53 u54 u55 u56 u57 u58 u59 u60 u61 u62 u63 u64 u65 u66 u67 u68 : Value), a = { tmps := #[.string ⟨s.toArray⟩, u1, .pointer (some ⟨B, 0, none⟩), .int .i64 at_, .bool neg, .int .i64 n, u6, u7, u8, u9, u10, u11, u12, u13, u14, u15, u16, u17, u18, u19, u20, u21, u22, u23, u24, u25, u26, u27, u28, u29, u30, u31, u32, u33, u34, u35, u36, u37, u38, u39, u40, u41, u42, u43, u44, u45, u46, u47, u48, u49, u50, u51, u52, u53, u54, u55, u56, u57, u58, u59, u60, u61, u62, u63, u64, u65, u66, u67, u68], defers := [] }
def JN (s : List UInt8) (B : Nat) (w1 : World) (m l : Nat) (a : Act) (w' : World) : Prop :=
  ∃ (at_ n : Int) (neg : Bool), FrN s B at_ neg n a ∧ w' = w1 ∧ ((l = 2 ∧ 0 ≤ at_ ∧ at_ ≤ s.length ∧ m = s.length - at_.toNat + 2 ∧ 0 ≤ n ∧ n ≤ 30000000000 ∧ finN neg (scanN (s.drop at_.toNat) n) = numF s)
    ∨ (l = 1 ∧ m = 1 ∧ 0 ≤ n ∧ n ≤ 30000000000 ∧ finN neg (some n) = numF s) ∨ (l = 0 ∧ m = 0 ∧ numF s = (0, false, false)))
def gb (s : List UInt8) (i : Nat) : Nat := (s.getD i 0).toNat
theorem ba_get (s : List UInt8) (i : Nat) (h : i < ({ data := s.toArray } : ByteArray).size) : (({ data := s.toArray } : ByteArray)[i]'h).toNat = gb s i := by
  have hl : i < s.length := by simpa [ByteArray.size] using h
  have : (({ data := s.toArray } : ByteArray)[i]'h) = s[i] := rfl
  rw [this]; simp [gb, List.getD, hl]
theorem gb_lt (s : List UInt8) (i : Nat) : gb s i < 256 := (s.getD i 0).toNat_lt
theorem scan_end (s : List UInt8) {k : Nat} (h : s.length ≤ k) (n : Int) : scanN (s.drop k) n = some n := by rw [List.drop_eq_nil_of_le h]; rfl
theorem drop_gb (s : List UInt8) {k : Nat} (h : k < s.length) : ∃ b, s.drop k = b :: s.drop (k + 1) ∧ b.toNat = gb s k :=
  ⟨s[k], List.drop_eq_getElem_cons h, by simp [gb, List.getD, h]⟩
theorem scan_bad (s : List UInt8) {k : Nat} (h : k < s.length) (hb : gb s k < 48 ∨ 57 < gb s k) (n : Int) : scanN (s.drop k) n = none := by
  obtain ⟨b, e, h1⟩ := drop_gb s h
  rw [e]
  unfold scanN
  have : (Nat.blt b.toNat 48 || Nat.blt 57 b.toNat) = true := by rw [h1]; simp; omega
  rw [this, cond_true]
theorem scan_dig (s : List UInt8) {k : Nat} (h : k < s.length) (h1 : 48 ≤ gb s k) (h2 : gb s k ≤ 57) (n : Int) : scanN (s.drop k) n = scanN (s.drop (k + 1)) (if n ≤ 2147483648 then 10 * n + ((gb s k : Int) - 48) else n) := by
  obtain ⟨b, e, hb⟩ := drop_gb s h
  rw [e]
  conv => lhs; unfold scanN
  have : (Nat.blt b.toNat 48 || Nat.blt 57 b.toNat) = false := by
    rw [hb]
    cases e1 : Nat.blt (gb s k) 48 <;> cases e2 : Nat.blt 57 (gb s k) <;> simp at e1 e2 ⊢ <;> omega
  rw [this, cond_false, hb]
  by_cases hn : n ≤ 2147483648
  · rw [decide_eq_true hn, cond_true, if_pos hn]
  · rw [decide_eq_false hn, cond_false, if_neg hn]
theorem beq_nat (b c : UInt8) : (b == c) = decide (b.toNat = c.toNat) := by
  rw [Bool.eq_iff_iff]; simp [← UInt8.toNat_inj]
theorem num_bad (s : List UInt8) (h : s.length = 0 ∨ (gb s 0 = 45 ∧ (s.length = 1 ∨ gb s 1 = 48)) ∨ (gb s 0 = 48 ∧ 1 < s.length)) : numF s = (0, false, false) := by
  cases s with
  | nil => rfl
  | cons b r =>
    have e0 : gb (b :: r) 0 = b.toNat := rfl
    have e1 : gb (b :: r) 1 = gb r 0 := rfl
    rw [e0, e1] at h
    unfold numF
    simp only [beq_nat]
    rcases h with h | ⟨h, h'⟩ | ⟨h, h'⟩
    · simp at h
    · have : decide (b.toNat = (45 : UInt8).toNat) = true := decide_eq_true h
      rw [this, cond_true]
      cases r with
      | nil => rfl
      | cons c r =>
        have e2 : gb (c :: r) 0 = c.toNat := rfl
        rw [e2] at h'
        have : decide (c.toNat = (48 : UInt8).toNat) = true := decide_eq_true (by rcases h' with h' | h' <;> simp at h' ⊢; exact h')
        simp only [this, cond_true]
    · have h1 : decide (b.toNat = (45 : UInt8).toNat) = false := decide_eq_false (by rw [h]; decide)
      have h2 : decide (b.toNat = (48 : UInt8).toNat) = true := decide_eq_true h
      have h3 : Nat.blt 0 r.length = true := by simp at h' ⊢; omega
      rw [h1, h2, h3]; rfl
theorem num_neg (s : List UInt8) (h : gb s 0 = 45) (hl : 1 < s.length) (h1 : gb s 1 ≠ 48) : finN true (scanN (s.drop 1) 0) = numF s := by
  match s, hl with
  | b :: c :: r, _ =>
    have e0 : b.toNat = 45 := h
    have e1 : c.toNat ≠ 48 := h1
    unfold numF
    simp only [beq_nat]
    have h3 : decide (b.toNat = (45 : UInt8).toNat) = true := decide_eq_true e0
    have h4 : decide (c.toNat = (48 : UInt8).toNat) = false := decide_eq_false e1
    simp only [h3, h4, cond_true, cond_false]; rfl
theorem num_pos (s : List UInt8) (hl : 0 < s.length) (h : gb s 0 ≠ 45) (h1 : gb s 0 ≠ 48 ∨ s.length ≤ 1) : finN false (scanN (s.drop 0) 0) = numF s := by
  match s, hl with
  | b :: r, _ =>
    have e0 : b.toNat ≠ 45 := h
    have e1 : b.toNat ≠ 48 ∨ (b :: r).length ≤ 1 := h1
    unfold numF
    simp only [beq_nat]
    have h3 : decide (b.toNat = (45 : UInt8).toNat) = false := decide_eq_false e0
    have h4 : (decide (b.toNat = (48 : UInt8).toNat) && Nat.blt 0 r.length) = false := by
      rcases e1 with e1 | e1
      · have : decide (b.toNat = (48 : UInt8).toNat) = false := decide_eq_false e1
        rw [this]; rfl
      · have : r.length = 0 := by simpa using e1
        rw [this]; simp; exact fun _ => rfl
    have h5 : (decide (b.toNat = (48 : UInt8).toNat) && Nat.blt 0 r.length) = false := h4
    simp only [h3, h5, cond_false]
    rfl
theorem dig_neg (s : List UInt8) (h : gb s 0 = 45) (hl : 1 < s.length) (h1 : 48 ≤ gb s 1) (h2 : gb s 1 ≤ 57) (h3 : gb s 1 ≠ 48) : finN true (scanN (s.drop (2 : Int).toNat) ((gb s 1 : Int) - 48)) = numF s := by
  rw [← num_neg s h hl h3, scan_dig s (k := 1) hl h1 h2, if_pos (by decide)]; simp
theorem dig_pos (s : List UInt8) (hl : 0 < s.length) (h1 : 48 ≤ gb s 0) (h2 : gb s 0 ≤ 57) (h3 : gb s 0 ≠ 48 ∨ s.length ≤ 1) : finN false (scanN (s.drop (1 : Int).toNat) ((gb s 0 : Int) - 48)) = numF s := by
  rw [← num_pos s hl (by omega) h3, scan_dig s (k := 0) hl h1 h2, if_pos (by decide)]; simp
theorem nd_neg (s : List UInt8) (h : gb s 0 = 45) (hl : 1 < s.length) (h1 : gb s 1 < 48 ∨ 57 < gb s 1) (h3 : gb s 1 ≠ 48) : numF s = (0, false, false) := by
  rw [← num_neg s h hl h3, scan_bad s (k := 1) hl h1]; rfl
theorem nd_pos (s : List UInt8) (hl : 0 < s.length) (h0 : gb s 0 ≠ 45) (h1 : gb s 0 < 48 ∨ 57 < gb s 0) : numF s = (0, false, false) := by
  rw [← num_pos s hl h0 (by omega), scan_bad s (k := 0) hl h1]; rfl
theorem isEmpty_len (s : List UInt8) : s.isEmpty = decide (s.length = 0) := by cases s <;> simp
theorem range_new (w : World) (t : TypeId) (a b c : Value) : (w.alloc (.cells #[a, b, c] t)).rangeAt w.heap.size 0 [a, b, c] := fun j v hv => by
  rw [cell_of_row _ _ _ _ _ _ (heap_alloc_new w _), Nat.zero_add]
  simpa using hv
theorem fin_some {neg : Bool} {n : Int} {s : List UInt8} (h : finN neg (some n) = numF s) : numF s = (bif neg then -n else n, true, decide (-2147483648 ≤ (bif neg then -n else n)) && decide ((bif neg then -n else n) ≤ 2147483647)) := h.symm
set_option maxHeartbeats 8000000 in
theorem number_any (s : List UInt8) (hs : s.length ≤ 1000000) (w : World) : Calls Tryd.prog 80 #[.string ⟨s.toArray⟩] w fun e w' => e = .returned (.agg #[.int .i64 (numF s).1, .bool (numF s).2.1, .bool (numF s).2.2]) ∧ Below w.heap.size w w' := by
  go_enter Tryd.func80, Tryd.ntmps80
  go_wp2
  have g0 := gb_lt s 0
  have g1 := gb_lt s 1
  refine wp_scope_all (JN s w.heap.size (w.alloc (.cells #[.int .i64 0, .bool false, .bool false] 101))) ?_ ?_
  · go_wp2
    all_goals (try go_step3)
    all_goals (try simp only [ba_get, beq_iff_eq, beq_eq_false_iff_ne, isEmpty_len, decide_eq_true_eq, decide_eq_false_iff_not] at *)
    all_goals (try (exfalso; omega))
    all_goals (try (refine Or.inl ⟨0, _, _, _, ⟨_, _, _, _, _, _, _, _, _, _, _, _, _, _, _, _, _, _, _, _, _, _, _, _, _, _, _, _, _, _, _, _, _, _, _, _, _, _, _, _, _, _, _, _, _, _, _, _, _, _, _, _, _, _, _, _, _, _, _, _, _, _, _, _, rfl⟩, rfl, .inr (.inr ⟨rfl, rfl, num_bad s ?_⟩)⟩; omega))
    all_goals (go_wp2)
    all_goals (try go_step3)
    all_goals (try simp only [ba_get, beq_iff_eq, beq_eq_false_iff_ne, isEmpty_len, decide_eq_true_eq, decide_eq_false_iff_not] at *)
    all_goals (try (exfalso; omega))
    · refine Or.inl ⟨0, _, _, _, ⟨_, _, _, _, _, _, _, _, _, _, _, _, _, _, _, _, _, _, _, _, _, _, _, _, _, _, _, _, _, _, _, _, _, _, _, _, _, _, _, _, _, _, _, _, _, _, _, _, _, _, _, _, _, _, _, _, _, _, _, _, _, _, _, _, rfl⟩, rfl, .inr (.inr ⟨rfl, rfl, nd_neg s ?_ ?_ ?_ ?_⟩)⟩ <;> omega
    · refine Or.inl ⟨_, _, _, _, ⟨_, _, _, _, _, _, _, _, _, _, _, _, _, _, _, _, _, _, _, _, _, _, _, _, _, _, _, _, _, _, _, _, _, _, _, _, _, _, _, _, _, _, _, _, _, _, _, _, _, _, _, _, _, _, _, _, _, _, _, _, _, _, _, _, rfl⟩, rfl, .inl ⟨rfl, ?_, ?_, rfl, ?_, ?_, dig_neg s ?_ ?_ ?_ ?_ ?_⟩⟩ <;> omega
    · refine Or.inl ⟨0, _, _, _, ⟨_, _, _, _, _, _, _, _, _, _, _, _, _, _, _, _, _, _, _, _, _, _, _, _, _, _, _, _, _, _, _, _, _, _, _, _, _, _, _, _, _, _, _, _, _, _, _, _, _, _, _, _, _, _, _, _, _, _, _, _, _, _, _, _, rfl⟩, rfl, .inr (.inr ⟨rfl, rfl, nd_neg s ?_ ?_ ?_ ?_⟩)⟩ <;> omega
    · refine Or.inl ⟨_, _, _, _, ⟨_, _, _, _, _, _, _, _, _, _, _, _, _, _, _, _, _, _, _, _, _, _, _, _, _, _, _, _, _, _, _, _, _, _, _, _, _, _, _, _, _, _, _, _, _, _, _, _, _, _, _, _, _, _, _, _, _, _, _, _, _, _, _, _, rfl⟩, rfl, .inl ⟨rfl, ?_, ?_, rfl, ?_, ?_, dig_pos s ?_ ?_ ?_ ?_⟩⟩ <;> omega
    · refine Or.inl ⟨0, _, _, _, ⟨_, _, _, _, _, _, _, _, _, _, _, _, _, _, _, _, _, _, _, _, _, _, _, _, _, _, _, _, _, _, _, _, _, _, _, _, _, _, _, _, _, _, _, _, _, _, _, _, _, _, _, _, _, _, _, _, _, _, _, _, _, _, _, _, rfl⟩, rfl, .inr (.inr ⟨rfl, rfl, nd_pos s ?_ ?_ ?_⟩)⟩ <;> omega
    · refine Or.inl ⟨_, _, _, _, ⟨_, _, _, _, _, _, _, _, _, _, _, _, _, _, _, _, _, _, _, _, _, _, _, _, _, _, _, _, _, _, _, _, _, _, _, _, _, _, _, _, _, _, _, _, _, _, _, _, _, _, _, _, _, _, _, _, _, _, _, _, _, _, _, _, rfl⟩, rfl, .inl ⟨rfl, ?_, ?_, rfl, ?_, ?_, dig_pos s ?_ ?_ ?_ ?_⟩⟩ <;> omega
    · refine Or.inl ⟨0, _, _, _, ⟨_, _, _, _, _, _, _, _, _, _, _, _, _, _, _, _, _, _, _, _, _, _, _, _, _, _, _, _, _, _, _, _, _, _, _, _, _, _, _, _, _, _, _, _, _, _, _, _, _, _, _, _, _, _, _, _, _, _, _, _, _, _, _, _, rfl⟩, rfl, .inr (.inr ⟨rfl, rfl, nd_pos s ?_ ?_ ?_⟩)⟩ <;> omega
  · rintro m l a w' ⟨at_, n, neg, ⟨u1, u6, u7, u8, u9, u10, u11, u12, u13, u14, u15, u16, u17, u18, u19, u20, u21, u22, u23, u24, u25, u26, u27, u28, u29, u30, u31, u32, u33, u34, u35, u36, u37, u38, u39, u40, u41, u42, u43, u44, u45, u46, u47, u48, u49, u50, u51, u52, u53, u54, u55, u56, u57, u58, u59, u60, u61, u62, u63, u64, u65, u66, u67, u68, rfl⟩, rfl, h⟩
    rcases h with ⟨rfl, h1, h2, rfl, h3, h4, h5⟩ | ⟨rfl, rfl, h3, h4, h5⟩ | ⟨rfl, rfl, h5⟩
    · refine ⟨_, rfl, ?_⟩
      have ga := gb_lt s at_.toNat
      go_wp2
      all_goals (try go_step3)
      all_goals (try simp only [ba_get, beq_iff_eq, beq_eq_false_iff_ne] at *)
      all_goals (try (exfalso; omega))
      · rename_i he
        refine Or.inl ⟨1, by omega, _, _, _, ⟨_, _, _, _, _, _, _, _, _, _, _, _, _, _, _, _, _, _, _, _, _, _, _, _, _, _, _, _, _, _, _, _, _, _, _, _, _, _, _, _, _, _, _, _, _, _, _, _, _, _, _, _, _, _, _, _, _, _, _, _, _, _, _, _, rfl⟩, rfl, .inr (.inl ⟨rfl, rfl, h3, h4, ?_⟩)⟩
        rw [← h5, scan_end s (by omega)]
      · refine Or.inl ⟨0, by omega, _, _, _, ⟨_, _, _, _, _, _, _, _, _, _, _, _, _, _, _, _, _, _, _, _, _, _, _, _, _, _, _, _, _, _, _, _, _, _, _, _, _, _, _, _, _, _, _, _, _, _, _, _, _, _, _, _, _, _, _, _, _, _, _, _, _, _, _, _, rfl⟩, rfl, .inr (.inr ⟨rfl, rfl, ?_⟩)⟩
        rw [← h5, scan_bad s (by omega) (by omega)]; rfl
      · refine Or.inl ⟨_, ?_, _, _, _, ⟨_, _, _, _, _, _, _, _, _, _, _, _, _, _, _, _, _, _, _, _, _, _, _, _, _, _, _, _, _, _, _, _, _, _, _, _, _, _, _, _, _, _, _, _, _, _, _, _, _, _, _, _, _, _, _, _, _, _, _, _, _, _, _, _, rfl⟩, rfl, .inl ⟨rfl, by omega, by omega, rfl, by omega, by omega, ?_⟩⟩
        · omega
        · rw [← h5, scan_dig s (k := at_.toNat) (by omega) (by omega) (by omega), if_pos (by omega), show (at_ + 1).toNat = at_.toNat + 1 by omega]
      · refine Or.inl ⟨_, ?_, _, _, _, ⟨_, _, _, _, _, _, _, _, _, _, _, _, _, _, _, _, _, _, _, _, _, _, _, _, _, _, _, _, _, _, _, _, _, _, _, _, _, _, _, _, _, _, _, _, _, _, _, _, _, _, _, _, _, _, _, _, _, _, _, _, _, _, _, _, rfl⟩, rfl, .inl ⟨rfl, by omega, by omega, rfl, by omega, by omega, ?_⟩⟩
        · omega
        · rw [← h5, scan_dig s (k := at_.toNat) (by omega) (by omega) (by omega), if_neg (by omega), show (at_ + 1).toNat = at_.toNat + 1 by omega]
      · refine Or.inl ⟨0, by omega, _, _, _, ⟨_, _, _, _, _, _, _, _, _, _, _, _, _, _, _, _, _, _, _, _, _, _, _, _, _, _, _, _, _, _, _, _, _, _, _, _, _, _, _, _, _, _, _, _, _, _, _, _, _, _, _, _, _, _, _, _, _, _, _, _, _, _, _, _, rfl⟩, rfl, .inr (.inr ⟨rfl, rfl, ?_⟩)⟩
        rw [← h5, scan_bad s (by omega) (by omega)]; rfl
    · refine ⟨_, rfl, ?_⟩
      cases neg <;> go_wp2
      all_goals (
        have hf := fin_some h5
        rename_i hn
        refine bodyPost_ret (results_cell_mid rfl _ _ w.heap.size 0 _ _ rfl (range_new w 101 _ _ _) Tryd.underlying101 rfl (by kernel_rfl)) rfl ⟨?_, (Below.refl _ _).alloc (Nat.le_refl _) _⟩
        rw [hf]
        simp only [cond_true, cond_false]
        first
          | rw [show decide (-2147483648 ≤ -n) = true from decide_eq_true (by omega), Bool.true_and]
          | rw [show decide (-2147483648 ≤ -n) = false from decide_eq_false (by omega), Bool.false_and]
          | rw [decide_eq_true hn, Bool.true_and])
    · refine ⟨_, rfl, ?_⟩
      go_wp2
      refine bodyPost_ret (results_cell_mid rfl _ _ w.heap.size 0 _ _ rfl (range_new w 101 _ _ _) Tryd.underlying101 rfl (by kernel_rfl)) rfl ⟨?_, (Below.refl _ _).alloc (Nat.le_refl _) _⟩
      rw [h5]
theorem scan_range : ∀ (l : List UInt8) (n r : Int), 0 ≤ n ∧ n ≤ 30000000000 → scanN l n = some r → 0 ≤ r ∧ r ≤ 30000000000
  | [], n, r, hn, h => by injection h with h; omega
  | b :: l, n, r, hn, h => by
    unfold scanN at h
    cases hc : (Nat.blt b.toNat 48 || Nat.blt 57 b.toNat) with
    | true => rw [hc, cond_true] at h; cases h
    | false =>
      rw [hc, cond_false] at h
      have hb : 48 ≤ b.toNat ∧ b.toNat ≤ 57 := by
        obtain ⟨e1, e2⟩ := Bool.or_eq_false_iff.1 hc
        have k1 : ¬ b.toNat < 48 := fun hx => by
          have : Nat.blt b.toNat 48 = true := by simpa using hx
          rw [this] at e1; cases e1
        have k2 : ¬ 57 < b.toNat := fun hx => by
          have : Nat.blt 57 b.toNat = true := by simpa using hx
          rw [this] at e2; cases e2
        omega
      refine scan_range l _ r ?_ h
      by_cases hk : n ≤ 2147483648
      · rw [decide_eq_true hk, cond_true]; omega
      · rw [decide_eq_false hk, cond_false]; exact hn
theorem fin_range (neg : Bool) (o : Option Int) (h : ∀ r, o = some r → 0 ≤ r ∧ r ≤ 30000000000) : -30000000000 ≤ (finN neg o).1 ∧ (finN neg o).1 ≤ 30000000000 := by
  cases o with
  | none => show (-30000000000 : Int) ≤ 0 ∧ (0 : Int) ≤ 30000000000; omega
  | some n =>
    have := h n rfl
    cases neg
    · show _ ≤ n ∧ n ≤ _; omega
    · show _ ≤ -n ∧ -n ≤ _; omega
theorem num_range (s : List UInt8) : -30000000000 ≤ (numF s).1 ∧ (numF s).1 ≤ 30000000000 := by
  have hz : (-30000000000 : Int) ≤ ((0, false, false) : Int × Bool × Bool).1 ∧ ((0, false, false) : Int × Bool × Bool).1 ≤ 30000000000 := ⟨by decide, by decide⟩
  unfold numF
  split
  · exact hz
  · rename_i b r
    cases b == 45
    · rw [cond_false]
      cases b == 48 && Nat.blt 0 r.length
      · exact fin_range _ _ fun r h => scan_range _ 0 r (by decide) h
      · exact hz
    · rw [cond_true]
      split
      · exact hz
      · rename_i c r
        cases c == 48
        · exact fin_range _ _ fun r h => scan_range _ 0 r (by decide) h
        · exact hz
def s_number (N : Nat) (s : List UInt8) : Option (Int × Bool × Bool) := br (Nat.ble s.length 1000000) (some (numF s)) none
theorem p_number (N : Nat) (x0 : List UInt8) (r0 : Int) (r1 r2 : Bool) (h : s_number N x0 = some (r0, r1, r2)) : PureRet Tryd.prog T 80 [.v (.str x0) .no] [.agg [.v (.int .i64 r0) .no, .v (.bool r1) .no, .v (.bool r2) .no]] := by
  unfold s_number br at h
  cases hc : Nat.ble x0.length 1000000 with
  | false => simp [hc] at h
  | true =>
  simp only [hc, cond_true] at h
  injection h with h
  simp only [Nat.ble_eq] at hc
  intro E g w us hsz hus
  obtain ⟨hl, hr⟩ := hus
  match us, hl with
  | [u], _ =>
  have hu := hr 0 _ rfl
  simp only [List.getD_cons_zero] at hu
  cases hu with | v x a u hu ha =>
  cases hu with | str s hs =>
  have hg := num_range x0
  refine (number_any x0 hc w).mono ?_
  rintro e w' ⟨rfl, hb⟩
  rw [h] at hg ⊢
  refine ⟨[.agg #[.int .i64 r0, .bool r1, .bool r2]], newG g w, rfl, fun E' => ⟨rfl, fun j y hk => ?_⟩, newG_tr hb⟩
  rcases j with _ | j
  · simp at hk; subst hk
    refine .agg _ _ rfl fun k y hk => ?_
    rcases k with _ | _ | _ | k
    · simp at hk; subst hk; exact .v _ _ _ (.int _ _ (by show (-9223372036854775808 : Int) ≤ _ ∧ _ ≤ (9223372036854775807 : Int); simp only [] at hg; omega)) trivial
    · simp at hk; subst hk; exact .v _ _ _ (.bool _) trivial
    · simp at hk; subst hk; exact .v _ _ _ (.bool _) trivial
    · simp at hk
  · simp at hk
end Go.Proofs.YtjpmogajlnkihaaDoor.En


/- ref27.Name: walked by hand (a slice of 54 strings); as an entry of the engine. -/
namespace Go.Proofs.YtjpmogajlnkihaaDoor.En
open Go Go.RowKit
set_option linter.unusedVariables false
def namesL : List (List UInt8) := [[110, 111, 112], [112, 117, 115, 104], [110, 117, 108, 108], [108, 111, 97, 100], [115, 116, 111, 114, 101], [105, 110, 99], [112, 111, 112], [100, 117, 112], [115, 119, 97, 112], [97, 100, 100], [115, 117, 98], [109, 117, 108], [100, 105, 118], [114, 101, 109], [110, 101, 103], [97, 110, 100], [111, 114], [120, 111, 114], [115, 104, 108], [115, 104, 114], [117, 115, 104, 114], [103, 111, 116, 111], [105, 102, 122, 101, 114, 111], [105, 102, 110, 111, 116], [105, 102, 110, 101, 103], [105, 102, 101, 113], [105, 102, 110, 101], [105, 102, 108, 116], [105, 102, 103, 101], [105, 102, 110, 117, 108, 108], [105, 102, 115, 111, 109, 101], [105, 102, 115, 97, 109, 101], [105, 102, 111, 116, 104, 101, 114], [110, 101, 119], [97, 114, 114, 97, 121], [108, 101, 110, 103, 116, 104], [103, 101, 116, 98, 121, 116, 101], [112, 117, 116, 98, 121, 116, 101], [103, 101, 116, 105, 110, 116], [112, 117, 116, 105, 110, 116], [103, 101, 116, 114, 101, 102], [112, 117, 116, 114, 101, 102], [103, 101, 116, 102, 105, 101, 108, 100], [112, 117, 116, 102, 105, 101, 108, 100], [103, 101, 116, 115, 116, 97, 116, 105, 99], [112, 117, 116, 115, 116, 97, 116, 105, 99], [99, 97, 108, 108], [118, 105, 114, 116, 117, 97, 108], [105, 110, 118, 111, 107, 101], [114, 101, 116, 117, 114, 110], [116, 104, 114, 111, 119], [99, 97, 115, 116], [105, 115], [110, 97, 116, 105, 118, 101]]
theorem namesL_eq : Lib.fields [110, 111, 112, 32, 112, 117, 115, 104, 32, 110, 117, 108, 108, 32, 108, 111, 97, 100, 32, 115, 116, 111, 114, 101, 32, 105, 110, 99, 32, 112, 111, 112, 32, 100, 117, 112, 32, 115, 119, 97, 112, 32, 97, 100, 100, 32, 115, 117, 98, 32, 109, 117, 108, 32, 100, 105, 118, 32, 114, 101, 109, 32, 110, 101, 103, 32, 97, 110, 100, 32, 111, 114, 32, 120, 111, 114, 32, 115, 104, 108, 32, 115, 104, 114, 32, 117, 115, 104, 114, 32, 103, 111, 116, 111, 32, 105, 102, 122, 101, 114, 111, 32, 105, 102, 110, 111, 116, 32, 105, 102, 110, 101, 103, 32, 105, 102, 101, 113, 32, 105, 102, 110, 101, 32, 105, 102, 108, 116, 32, 105, 102, 103, 101, 32, 105, 102, 110, 117, 108, 108, 32, 105, 102, 115, 111, 109, 101, 32, 105, 102, 115, 97, 109, 101, 32, 105, 102, 111, 116, 104, 101, 114, 32, 110, 101, 119, 32, 97, 114, 114, 97, 121, 32, 108, 101, 110, 103, 116, 104, 32, 103, 101, 116, 98, 121, 116, 101, 32, 112, 117, 116, 98, 121, 116, 101, 32, 103, 101, 116, 105, 110, 116, 32, 112, 117, 116, 105, 110, 116, 32, 103, 101, 116, 114, 101, 102, 32, 112, 117, 116, 114, 101, 102, 32, 103, 101, 116, 102, 105, 101, 108, 100, 32, 112, 117, 116, 102, 105, 101, 108, 100, 32, 103, 101, 116, 115, 116, 97, 116, 105, 99, 32, 112, 117, 116, 115, 116, 97, 116, 105, 99, 32, 99, 97, 108, 108, 32, 118, 105, 114, 116, 117, 97, 108, 32, 105, 110, 118, 111, 107, 101, 32, 114, 101, 116, 117, 114, 110, 32, 116, 104, 114, 111, 119, 32, 99, 97, 115, 116, 32, 105, 115, 32, 110, 97, 116, 105, 118, 101] = namesL := by kernel_rfl
theorem namesL_len : ∀ k, (namesL.getD k []).length ≤ 20 := by
  have h : ∀ l ∈ namesL, l.length ≤ 20 := by decide
  intro k
  rw [List.getD_eq_getElem?_getD]
  cases e : namesL[k]? with
  | none => simp
  | some l => exact h l (List.mem_of_getElem? e)
end Go.Proofs.YtjpmogajlnkihaaDoor.En

/- Joins what is printed and the walks by hand. -/

/- Instructions as plain data: forms, limits, which are valid; their bytes, numbers in decimal. No program in sight. -/
namespace Go.Proofs.YtjpmogajlnkihaaDoor.En
open Go
set_option linter.unusedVariables false
/-- An instruction. -/
structure In where
  op : Int
  a : Int
  b : Int
  c : Int
  deriving DecidableEq
def ftab : List (Int × Int × Int) := [(0,0,0), (1,0,0), (0,0,0), (2,0,0), (2,0,0), (2,3,0), (0,0,0), (0,0,0), (0,0,0), (0,0,0), (0,0,0), (0,0,0), (0,0,0), (0,0,0), (0,0,0), (0,0,0), (0,0,0), (0,0,0), (0,0,0), (0,0,0), (0,0,0),
  (4,0,0), (4,0,0), (4,0,0), (4,0,0), (4,0,0), (4,0,0), (4,0,0), (4,0,0), (4,0,0), (4,0,0), (4,0,0), (4,0,0), (5,6,0), (7,0,0), (0,0,0), (0,0,0), (0,0,0), (0,0,0), (0,0,0), (0,0,0), (0,0,0), (5,6,8), (5,6,8), (9,0,0), (9,0,0), (10,11,0), (5,6,12), (5,6,12), (0,0,0), (0,0,0), (5,6,0), (5,6,0), (13,0,0)]
def fm (op : Int) : Int × Int × Int := ftab.getD op.toNat (0, 0, 0)
def fA (op : Int) : Int := (fm op).1
def fB (op : Int) : Int := (fm op).2.1
def fC (op : Int) : Int := (fm op).2.2
def lim (f p : Int) : Int × Int :=
  if f = 1 then (-2147483648, 2147483647) else if f = 2 then (0, 15) else if f = 3 then (-128, 127) else if f = 4 then (0, 255) else if f = 5 then (0, 4) else if f = 10 then (0, 4)
  else if f = 6 then (if p = 255 then (0, 1) else (0, 31)) else if f = 7 then (2, 4) else if f = 8 then (0, 15) else if f = 9 then (0, 255) else if f = 11 then (0, 63) else if f = 12 then (0, 15) else if f = 13 then (0, 14) else (0, 0)
def oe (f n p : Int) : Int := if f = 0 then (if n = 0 then 0 else 4) else if (n < (lim f p).1 ∨ (lim f p).2 < n) ∧ ¬ (f = 5 ∧ n = 255) then 2 else 0
def chk (i : In) : Int :=
  if i.op < 0 then 4 else if 54 ≤ i.op then 4 else if oe (fA i.op) i.a i.a = 0 then (if oe (fB i.op) i.b i.a = 0 then oe (fC i.op) i.c i.a else oe (fB i.op) i.b i.a) else oe (fA i.op) i.a i.a
/-- The forms that an instruction has. -/
def Fm (x y z : Int) : Prop := (y = 0 ∧ z = 0 ∧ 0 ≤ x ∧ x ≤ 13 ∧ x ≠ 5 ∧ x ≠ 6 ∧ x ≠ 10 ∧ x ≠ 11) ∨ (x = 2 ∧ y = 3 ∧ z = 0) ∨ (x = 5 ∧ y = 6 ∧ (z = 0 ∨ z = 8 ∨ z = 12)) ∨ (x = 10 ∧ y = 11 ∧ z = 0)
instance (x y z : Int) : Decidable (Fm x y z) := by unfold Fm; infer_instance
theorem fm_tab : ∀ k : Fin 54, Fm (fA (k.val : Int)) (fB (k.val : Int)) (fC (k.val : Int)) := by decide +kernel
theorem fm_of {op : Int} (h0 : 0 ≤ op) (h1 : op < 54) : Fm (fA op) (fB op) (fC op) := by
  have := fm_tab ⟨op.toNat, by omega⟩
  have e : ((op.toNat : Nat) : Int) = op := by omega
  simpa only [e] using this
/-- For all numbers of instructions, out of a check of 54. -/
theorem each54 {P : Int → Prop} (h : ∀ k : Fin 54, P (k.val : Int)) {op : Int} (h0 : 0 ≤ op) (h1 : op < 54) : P op := by
  have := h ⟨op.toNat, by omega⟩
  have e : ((op.toNat : Nat) : Int) = op := by omega
  simpa only [e] using this
theorem chk_range {i : In} (h : chk i = 0) : 0 ≤ i.op ∧ i.op < 54 := by
  unfold chk at h
  split at h
  · cases h
  · split at h
    · cases h
    · omega
theorem chk_parts {i : In} (h : chk i = 0) : oe (fA i.op) i.a i.a = 0 ∧ oe (fB i.op) i.b i.a = 0 ∧ oe (fC i.op) i.c i.a = 0 := by
  unfold chk at h
  split at h
  · cases h
  · split at h
    · cases h
    · split at h
      · rename_i h1
        split at h
        · rename_i h2; exact ⟨h1, h2, h⟩
        · rename_i h2; exact absurd h h2
      · rename_i h1; exact absurd h h1
theorem lim_one (p : Int) : lim 1 p = (-2147483648, 2147483647) := by
  unfold lim; rw [if_pos rfl]
set_option maxHeartbeats 4000000 in
theorem lim_mem {f : Int} (h1 : f ≠ 1) (p : Int) : lim f p ∈ [(0, 15), (-128, 127), (0, 255), (0, 4), (0, 1), (0, 31), (2, 4), (0, 63), (0, 14), ((0 : Int), (0 : Int))] := by
  unfold lim
  rw [if_neg h1]
  repeat' split
  all_goals decide
theorem lim_small {f : Int} (h1 : f ≠ 1) (p : Int) : -128 ≤ (lim f p).1 ∧ (lim f p).2 ≤ 255 := by
  have h : ∀ q ∈ [(0, 15), (-128, 127), (0, 255), (0, 4), (0, 1), (0, 31), (2, 4), (0, 63), (0, 14), ((0 : Int), (0 : Int))], -128 ≤ q.1 ∧ q.2 ≤ 255 := by decide
  exact h _ (lim_mem h1 p)
theorem lim_range (f p : Int) : -2147483648 ≤ (lim f p).1 ∧ (lim f p).2 ≤ 2147483647 := by
  by_cases h1 : f = 1
  · subst h1
    rw [lim_one]
    simp only
    omega
  · have := lim_small h1 p
    omega
/-- A valid operand fits 32 bits. -/
theorem oe_range {f n p : Int} (h : oe f n p = 0) : -2147483648 ≤ n ∧ n ≤ 2147483647 := by
  have := lim_range f p
  unfold oe at h
  split at h
  · split at h
    · omega
    · cases h
  · split at h
    · cases h
    · omega
theorem oe_none {n p : Int} (h : oe 0 n p = 0) : n = 0 := by
  unfold oe at h
  rw [if_pos rfl] at h
  split at h
  · assumption
  · cases h
theorem oe_kind {n p : Int} (h : oe 7 n p = 0) : 2 ≤ n ∧ n ≤ 4 := by
  unfold oe at h
  rw [if_neg (by decide)] at h
  have e : lim 7 p = (2, 4) := rfl
  rw [e] at h
  split at h
  · cases h
  · omega
/-! Bytes -/
def byteI (n : Int) : UInt8 := UInt8.ofNat (n % 256).toNat
def encO (f n : Int) : List UInt8 := if f = 0 then [] else if f = 1 then [byteI (n / 16777216), byteI (n / 65536), byteI (n / 256), byteI n] else [byteI n]
def encI (i : In) : List UInt8 := byteI i.op :: (encO (fA i.op) i.a ++ (encO (fB i.op) i.b ++ encO (fC i.op) i.c))
def wid (f : Int) : Nat := if f = 0 then 0 else if f = 1 then 4 else 1
theorem encO_len (f n : Int) : (encO f n).length = wid f := by
  unfold encO wid
  repeat' split
  all_goals rfl
/-! Lists of instructions -/
def firstE : List In → Int
  | [] => 0
  | i :: l => if chk i = 0 then firstE l else chk i
def encAll : List In → List UInt8
  | [] => []
  | i :: l => encI i ++ encAll l
theorem firstE_cons {i : In} {l : List In} (h : firstE (i :: l) = 0) : chk i = 0 ∧ firstE l = 0 := by
  unfold firstE at h
  split at h
  · rename_i c; exact ⟨c, h⟩
  · rename_i c; exact absurd h c
def encL (l : List In) : List UInt8 × Int := if 256 < l.length then ([], 3) else if firstE l = 0 then (encAll l, 0) else ([], firstE l)
end Go.Proofs.YtjpmogajlnkihaaDoor.En

/- Numbers in decimal, there and back. No program in sight. -/
namespace Go.Proofs.YtjpmogajlnkihaaDoor.En
open Go
set_option linter.unusedVariables false
theorem scan_one (d : UInt8) (m : Int) : scanN [d] m = if d.toNat < 48 ∨ 57 < d.toNat then none else some (if m ≤ 2147483648 then 10 * m + ((d.toNat : Int) - 48) else m) := by
  have e1 : (Nat.blt d.toNat 48 || Nat.blt 57 d.toNat) = decide (d.toNat < 48 ∨ 57 < d.toNat) := by
    rw [Bool.eq_iff_iff]; simp
  unfold scanN
  rw [e1]
  by_cases h : d.toNat < 48 ∨ 57 < d.toNat
  · rw [decide_eq_true h, if_pos h]; rfl
  · rw [decide_eq_false h, if_neg h]
    by_cases c : m ≤ 2147483648
    · rw [decide_eq_true c, if_pos c]; rfl
    · rw [decide_eq_false c, if_neg c]; rfl
theorem scan_snoc (d : UInt8) : ∀ (l : List UInt8) (n : Int), scanN (l ++ [d]) n = (scanN l n).bind fun m => scanN [d] m
  | [], n => rfl
  | b :: l, n => by
    rw [List.cons_append]
    conv => lhs; unfold scanN
    conv => rhs; arg 1; unfold scanN
    cases Nat.blt b.toNat 48 || Nat.blt 57 b.toNat with
    | true => rfl
    | false => exact scan_snoc d l _
theorem digit_nat {k : Nat} (h : k < 10) : (UInt8.ofNat (48 + k)).toNat = 48 + k := by
  rw [UInt8.toNat_ofNat']; omega
theorem digF_one {f u : Nat} (h : u < 10) : digF (f + 1) u = [UInt8.ofNat (48 + u)] := by
  unfold digF
  have : Nat.blt u 10 = true := by simpa using h
  rw [this, cond_true]
theorem digF_more {f u : Nat} (h : ¬ u < 10) : digF (f + 1) u = digF f (u / 10) ++ [UInt8.ofNat (48 + u % 10)] := by
  conv => lhs; unfold digF
  have : Nat.blt u 10 = false := by
    cases h0 : Nat.blt u 10 with
    | false => rfl
    | true => exact absurd (by simpa using h0) h
  rw [this, cond_false]
theorem pow_pos {f : Nat} {u : Nat} (h : u < 10 ^ f) (h0 : 0 < u) : 0 < f := by
  rcases Nat.eq_zero_or_pos f with rfl | h1
  · simp at h; omega
  · exact h1
theorem scan_digF : ∀ (f u : Nat), 0 < f → u < 10 ^ f → u ≤ 21474836480 → scanN (digF f u) 0 = some (u : Int)
  | f + 1, u, _, h, hu => by
    by_cases c : u < 10
    · rw [digF_one c, scan_one, digit_nat c, if_neg (by omega), if_pos (by decide)]
      congr 1; omega
    · rw [digF_more c, scan_snoc]
      have hf : u / 10 < 10 ^ f := by rw [Nat.pow_succ] at h; omega
      rw [scan_digF f (u / 10) (pow_pos hf (by omega)) hf (by omega)]
      show scanN _ _ = _
      rw [scan_one, digit_nat (by omega), if_neg (by omega), if_pos (by omega)]
      congr 1; omega
theorem digF_head : ∀ (f u : Nat), 0 < f → u < 10 ^ f → ∃ b r, digF f u = b :: r ∧ 48 ≤ b.toNat ∧ b.toNat ≤ 57 ∧ (b.toNat = 48 → u = 0 ∧ r = [])
  | f + 1, u, _, h => by
    by_cases c : u < 10
    · refine ⟨_, [], digF_one c, ?_⟩
      rw [digit_nat c]
      exact ⟨by omega, by omega, fun e => ⟨by omega, rfl⟩⟩
    · have hf : u / 10 < 10 ^ f := by rw [Nat.pow_succ] at h; omega
      obtain ⟨b, r, e, h1, h2, h3⟩ := digF_head f (u / 10) (pow_pos hf (by omega)) hf
      refine ⟨b, r ++ [UInt8.ofNat (48 + u % 10)], by rw [digF_more c, e]; rfl, h1, h2, fun e => ?_⟩
      have := (h3 e).1; omega
theorem digF_dig : ∀ (f u : Nat), ∀ b ∈ digF f u, 48 ≤ b.toNat ∧ b.toNat ≤ 57
  | 0, u, b, hb => by cases hb
  | f + 1, u, b, hb => by
    by_cases c : u < 10
    · rw [digF_one c] at hb
      simp only [List.mem_singleton] at hb
      subst hb; rw [digit_nat c]; omega
    · rw [digF_more c] at hb
      rcases List.mem_append.1 hb with hb | hb
      · exact digF_dig f _ b hb
      · simp only [List.mem_singleton] at hb
        subst hb; rw [digit_nat (by omega)]; omega
theorem itoa_neg {n : Int} (h : n < 0) : itoaF n = 45 :: digF 20 n.natAbs := by unfold itoaF; rw [decide_eq_true h, cond_true]
theorem itoa_pos {n : Int} (h : ¬ n < 0) : itoaF n = digF 20 n.toNat := by unfold itoaF; rw [decide_eq_false h, cond_false]
theorem num_neg' (c : UInt8) (r : List UInt8) (h : c.toNat ≠ 48) : numF (45 :: c :: r) = finN true (scanN (c :: r) 0) := by
  have : (c == (48 : UInt8)) = false := by rw [beq_nat]; exact decide_eq_false h
  show (bif c == (48 : UInt8) then _ else _) = _
  rw [this]; rfl
theorem num_pos' (b : UInt8) (r : List UInt8) (h : b.toNat ≠ 45) (h1 : b.toNat = 48 → r = []) : numF (b :: r) = finN false (scanN (b :: r) 0) := by
  have e1 : (b == (45 : UInt8)) = false := by rw [beq_nat]; exact decide_eq_false h
  have e2 : (b == (48 : UInt8) && Nat.blt 0 r.length) = false := by
    rw [beq_nat]
    by_cases c : b.toNat = 48
    · rw [h1 c]; exact Bool.and_false _
    · rw [show decide (b.toNat = (48 : UInt8).toNat) = false from decide_eq_false c]; rfl
  show (bif b == (45 : UInt8) then _ else _) = _
  rw [e1, cond_false, e2, cond_false]
/-- A number of 32 bits, printed and read. -/
theorem num_itoa {n : Int} (h1 : -2147483648 ≤ n) (h2 : n ≤ 2147483647) : numF (itoaF n) = (n, true, true) := by
  by_cases c : n < 0
  · rw [itoa_neg c]
    obtain ⟨b, r, e, d1, d2, d3⟩ := digF_head 20 n.natAbs (by decide) (by omega)
    have hs := scan_digF 20 n.natAbs (by decide) (by omega) (by omega)
    rw [e] at hs ⊢
    rw [num_neg' b r (fun e => by have := (d3 e).1; omega), hs]
    have e : -((n.natAbs : Nat) : Int) = n := by omega
    show (-((n.natAbs : Nat) : Int), true, decide (-2147483648 ≤ -((n.natAbs : Nat) : Int)) && decide (-((n.natAbs : Nat) : Int) ≤ 2147483647)) = _
    rw [e, decide_eq_true h1, decide_eq_true h2]; rfl
  · rw [itoa_pos c]
    obtain ⟨b, r, e, d1, d2, d3⟩ := digF_head 20 n.toNat (by decide) (by omega)
    have hs := scan_digF 20 n.toNat (by decide) (by omega) (by omega)
    rw [e] at hs ⊢
    rw [num_pos' b r (by omega) (fun e => (d3 e).2), hs]
    have e : ((n.toNat : Nat) : Int) = n := by omega
    show (((n.toNat : Nat) : Int), true, decide (-2147483648 ≤ ((n.toNat : Nat) : Int)) && decide (((n.toNat : Nat) : Int) ≤ 2147483647)) = _
    rw [e, decide_eq_true h1, decide_eq_true h2]; rfl
end Go.Proofs.YtjpmogajlnkihaaDoor.En

/- Instructions as lines of text, there and back. No program in sight. -/
namespace Go.Proofs.YtjpmogajlnkihaaDoor.En
open Go
set_option linter.unusedVariables false
def sysW : List UInt8 := [115, 121, 115, 116, 101, 109]
def kindsL : List (List UInt8) := [[98, 121, 116, 101, 115], [105, 110, 116, 115], [114, 101, 102, 115]]
def wordT (f n : Int) : List UInt8 := if f = 5 ∧ n = 255 then sysW else if f = 7 then kindsL.getD (n - 2).toNat [] else itoaF n
def sepB (f : Int) : UInt8 := if f = 6 ∨ f = 11 then 46 else 32
def partT (f n : Int) : List UInt8 := if f = 0 then [] else sepB f :: wordT f n
def nameT (op : Int) : List UInt8 := namesL.getD op.toNat []
def lineT (i : In) : List UInt8 := nameT i.op ++ (partT (fA i.op) i.a ++ (partT (fB i.op) i.b ++ partT (fC i.op) i.c))
def textAll : List In → List UInt8
  | [] => []
  | i :: l => lineT i ++ 10 :: textAll l
def textL (l : List In) : List UInt8 := if (encL l).2 = 0 then textAll l else []
def idxN (w : List UInt8) : List (List UInt8) → Option Nat
  | [] => none
  | x :: l => if x = w then some 0 else (idxN w l).map (· + 1)
def valW (f : Int) (s : List UInt8) : Int × Bool × Bool :=
  if f = 7 then (if s = [98, 121, 116, 101, 115] then (2, true, true) else if s = [105, 110, 116, 115] then (3, true, true) else if s = [114, 101, 102, 115] then (4, true, true) else (1, false, true))
  else if f = 5 ∧ s = sysW then (255, true, true) else if f = 5 ∧ (numF s).1 = 255 then (0, false, false) else numF s
def wordsW (x y z : Int) (ws : List (List UInt8)) : Option (List (List UInt8)) :=
  if x = 0 then (match ws with | [] => some [] | _ :: _ => none)
  else if y = 6 ∨ y = 11 then
    (match ws with
    | w :: r => match cut1 46 w with
      | (a, b, true) => if z = 0 then (match r with | [] => some [a, b] | _ :: _ => none) else (match r with | [c] => some [a, b, c] | _ => none)
      | (_, _, false) => none
    | [] => none)
  else if y = 0 then (match ws with | [w] => some [w] | _ => none)
  else (match ws with | [w, v] => some [w, v] | _ => none)
def valsW : List Int → List (List UInt8) → Option (List Int × Bool)
  | _, [] => some ([], true)
  | f :: fs, w :: ws => if (valW f w).2.1 = true then (match valsW fs ws with | some p => some ((valW f w).1 :: p.1, (valW f w).2.2 && p.2) | none => none) else none
  | [], _ :: _ => none
def zI : In := ⟨0, 0, 0, 0⟩
def lineV (k : Int) (ws : List (List UInt8)) : In × Int :=
  match valsW [fA k, fB k, fC k] ws with
  | none => (zI, 30)
  | some (l, fits) => if fits = true then (⟨k, l.getD 0 0, l.getD 1 0, l.getD 2 0⟩, chk ⟨k, l.getD 0 0, l.getD 1 0, l.getD 2 0⟩) else (zI, 2)
def lineK (k : Int) (r : List (List UInt8)) : In × Int :=
  match wordsW (fA k) (fB k) (fC k) r with
  | none => (zI, 30)
  | some ws => lineV k ws
def lineP (s : List UInt8) : In × Int :=
  match split1 32 s with
  | [] => (zI, 30)
  | w :: r => match idxN w namesL with
    | none => (zI, 30)
    | some k => lineK k r
def parseL : Nat → List In → List UInt8 → List In × Int
  | 0, _, _ => ([], 0)
  | _ + 1, acc, [] => (acc, 0)
  | t + 1, acc, b :: r => if acc.length = 256 then ([], 3) else
    if (cut1 10 (b :: r)).2.2 = true then (if (lineP (cut1 10 (b :: r)).1).2 = 0 then parseL t (acc ++ [(lineP (cut1 10 (b :: r)).1).1]) (cut1 10 (b :: r)).2.1 else ([], (lineP (cut1 10 (b :: r)).1).2)) else ([], 30)
/-! Cutting -/
theorem cut1_hit (c : UInt8) (r : List UInt8) : ∀ w : List UInt8, c ∉ w → cut1 c (w ++ c :: r) = (w, r, true)
  | [], _ => by
    show (bif c == c then _ else _) = _
    rw [beq_self_eq_true, cond_true]
  | b :: w, h => by
    have hb : (b == c) = false := by
      rw [beq_eq_false_iff_ne]; intro e; subst e; exact h (by simp)
    have ih := cut1_hit c r w (fun m => h (by simp [m]))
    show (bif b == c then _ else _) = _
    rw [hb, cond_false]
    rw [show (w.append (c :: r)) = w ++ c :: r from rfl, ih]
theorem cut1_back (c : UInt8) : ∀ (s a b : List UInt8), cut1 c s = (a, b, true) → s = a ++ c :: b
  | [], a, b, h => by cases h
  | x :: s, a, b, h => by
    unfold cut1 at h
    cases hx : x == c with
    | true =>
      rw [hx, cond_true] at h
      injection h with h1 h
      injection h with h2 _
      rw [beq_iff_eq] at hx
      subst h1 h2 hx; rfl
    | false =>
      rw [hx, cond_false] at h
      rcases hc : cut1 c s with ⟨p, q, z⟩
      rw [hc] at h
      injection h with h1 h
      injection h with h2 h3
      subst h1 h2 h3
      rw [cut1_back c s p q hc]; rfl
theorem split1_hit (c : UInt8) (r : List UInt8) : ∀ w : List UInt8, c ∉ w → split1 c (w ++ c :: r) = w :: split1 c r
  | [], _ => by
    show (bif c == c then _ else _) = _
    rw [beq_self_eq_true, cond_true]
  | b :: w, h => by
    have hb : (b == c) = false := by
      rw [beq_eq_false_iff_ne]; intro e; subst e; exact h (by simp)
    have ih := split1_hit c r w (fun m => h (by simp [m]))
    show (bif b == c then _ else _) = _
    rw [hb, cond_false]
    rw [show (w.append (c :: r)) = w ++ c :: r from rfl, ih]
theorem split1_last (c : UInt8) : ∀ w : List UInt8, c ∉ w → split1 c w = [w]
  | [], _ => rfl
  | b :: w, h => by
    have hb : (b == c) = false := by
      rw [beq_eq_false_iff_ne]; intro e; subst e; exact h (by simp)
    show (bif b == c then _ else _) = _
    rw [hb, cond_false, split1_last c w (fun m => h (by simp [m]))]
theorem split1_ne (c : UInt8) (s : List UInt8) : split1 c s ≠ [] := by
  cases s with
  | nil => simp [split1]
  | cons b l =>
    unfold split1
    cases b == c with
    | true => simp
    | false =>
      rw [cond_false]
      split <;> simp
/-! Words -/
def Clean (w : List UInt8) : Prop := (32 : UInt8) ∉ w ∧ (46 : UInt8) ∉ w ∧ (10 : UInt8) ∉ w
instance (w : List UInt8) : Decidable (Clean w) := by unfold Clean; infer_instance
theorem clean_names : ∀ k : Fin 54, Clean (nameT (k.val : Int)) := by decide +kernel
theorem clean_itoa (n : Int) : Clean (itoaF n) := by
  have hd : ∀ b ∈ itoaF n, b.toNat = 45 ∨ (48 ≤ b.toNat ∧ b.toNat ≤ 57) := by
    intro b hb
    by_cases c : n < 0
    · rw [itoa_neg c] at hb
      rcases List.mem_cons.1 hb with rfl | hb
      · exact Or.inl rfl
      · exact Or.inr (digF_dig _ _ b hb)
    · rw [itoa_pos c] at hb
      exact Or.inr (digF_dig _ _ b hb)
  refine ⟨fun h => ?_, fun h => ?_, fun h => ?_⟩
  all_goals
    have := hd _ h
    revert this
    decide
theorem clean_word {f n p : Int} (h : oe f n p = 0) : Clean (wordT f n) := by
  unfold wordT
  split
  · decide
  · split
    · rename_i h7; subst h7
      have := oe_kind h
      rcases (by omega : n = 2 ∨ n = 3 ∨ n = 4) with rfl | rfl | rfl <;> decide
    · exact clean_itoa n
theorem sys_num : numF sysW = (0, false, false) := by decide +kernel
/-- A valid operand, as a word, read. -/
theorem val_word {f n p : Int} (h : oe f n p = 0) (h0 : f ≠ 0) : valW f (wordT f n) = (n, true, true) := by
  have hr := oe_range h
  have hn := num_itoa hr.1 hr.2
  unfold wordT
  by_cases c5 : f = 5 ∧ n = 255
  · obtain ⟨rfl, rfl⟩ := c5
    rw [if_pos ⟨rfl, rfl⟩]
    decide +kernel
  rw [if_neg c5]
  by_cases c7 : f = 7
  · subst c7
    have := oe_kind h
    rw [if_pos rfl]
    rcases (by omega : n = 2 ∨ n = 3 ∨ n = 4) with rfl | rfl | rfl <;> decide +kernel
  rw [if_neg c7]
  unfold valW
  rw [if_neg c7, if_neg, if_neg, hn]
  · rw [hn]; exact c5
  · rintro ⟨_, e⟩
    rw [e, sys_num] at hn
    cases hn
theorem idx_hit : ∀ k : Fin 54, idxN (nameT (k.val : Int)) namesL = some k.val := by decide +kernel
theorem idx_back (w : List UInt8) : ∀ (l : List (List UInt8)) (k : Nat), idxN w l = some k → k < l.length ∧ l.getD k [] = w
  | [], k, h => by cases h
  | x :: l, k, h => by
    unfold idxN at h
    split at h
    · rename_i e; injection h with h; subst h; exact ⟨by simp, e⟩
    · cases hi : idxN w l with
      | none => rw [hi] at h; cases h
      | some j =>
        rw [hi] at h
        injection h with h
        subst h
        obtain ⟨h1, h2⟩ := idx_back w l j hi
        exact ⟨by simp; omega, by simpa using h2⟩
theorem name_idx {op : Int} (h0 : 0 ≤ op) (h1 : op < 54) : idxN (nameT op) namesL = some op.toNat := by
  have := idx_hit ⟨op.toNat, by omega⟩
  have e : ((op.toNat : Nat) : Int) = op := by omega
  simpa only [e] using this
theorem name_clean {op : Int} (h0 : 0 ≤ op) (h1 : op < 54) : Clean (nameT op) := each54 (P := fun op => Clean (nameT op)) clean_names h0 h1
theorem words_j {x y : Int} (z : Int) {w : List UInt8} (r : List (List UInt8)) {a b : List UInt8} (hx : x ≠ 0) (hy : y = 6 ∨ y = 11) (hc : cut1 46 w = (a, b, true)) :
    wordsW x y z (w :: r) = if z = 0 then (match r with | [] => some [a, b] | _ :: _ => none) else (match r with | [c] => some [a, b, c] | _ => none) := by
  unfold wordsW
  rw [if_neg hx, if_pos hy]
  simp only [hc]
/-! Lines -/
theorem partT0 (n : Int) : partT 0 n = [] := rfl
theorem line_there {i : In} (h : chk i = 0) : lineP (lineT i) = (i, 0) ∧ (10 : UInt8) ∉ lineT i := by
  obtain ⟨h0, h1⟩ := chk_range h
  obtain ⟨ha, hb, hc⟩ := chk_parts h
  have hn := name_clean h0 h1
  have hi := name_idx h0 h1
  have hk : ((i.op.toNat : Nat) : Int) = i.op := by omega
  have hf := fm_of h0 h1
  unfold lineP lineT
  generalize hx : fA i.op = x at *
  generalize hy : fB i.op = y at *
  generalize hz : fC i.op = z at *
  have fin : ∀ ws l, wordsW x y z ws = some l → ∀ a : List Int, valsW [x, y, z] l = some (a, true) → a.getD 0 0 = i.a → a.getD 1 0 = i.b → a.getD 2 0 = i.c → lineK i.op ws = (i, 0) := by
    intro ws l e1 a e2 e3 e4 e5
    unfold lineK lineV
    rw [hx, hy, hz, e1]
    simp only [e2, if_true, e3, e4, e5]
    show (i, chk i) = _
    rw [h]
  rcases hf with ⟨rfl, rfl, _, _, n5, n6, n10, n11⟩ | ⟨rfl, rfl, rfl⟩ | ⟨rfl, rfl, hz'⟩ | ⟨rfl, rfl, rfl⟩
  · have eb := oe_none hb
    have ec := oe_none hc
    rw [partT0, partT0]
    by_cases x0 : x = 0
    · subst x0
      have ea := oe_none ha
      rw [partT0]
      simp only [List.append_nil]
      refine ⟨?_, hn.2.2⟩
      rw [split1_last 32 _ hn.1]
      simp only [hi, hk]
      exact fin [] [] rfl [] rfl ea.symm eb.symm ec.symm
    · have hw := clean_word ha
      have e : partT x i.a = 32 :: wordT x i.a := by
        unfold partT sepB
        rw [if_neg x0, if_neg (by omega)]
      rw [e]
      simp only [List.append_nil]
      refine ⟨?_, ?_⟩
      · rw [split1_hit 32 _ _ hn.1, split1_last 32 _ hw.1]
        simp only [hi, hk]
        refine fin [wordT x i.a] [wordT x i.a] ?_ [i.a] ?_ rfl eb.symm ec.symm
        · unfold wordsW
          rw [if_neg x0, if_neg (by omega), if_pos rfl]
        · unfold valsW
          rw [val_word ha x0]; rfl
      · simp only [List.mem_append, List.mem_cons, not_or]
        exact ⟨hn.2.2, by decide, hw.2.2⟩
  · have ec := oe_none hc
    have hw := clean_word ha
    have hv := clean_word hb
    rw [partT0, show partT 2 i.a = 32 :: wordT 2 i.a from rfl, show partT 3 i.b = 32 :: wordT 3 i.b from rfl]
    simp only [List.append_nil, List.cons_append]
    refine ⟨?_, ?_⟩
    · rw [split1_hit 32 _ _ hn.1, split1_hit 32 _ _ hw.1, split1_last 32 _ hv.1]
      simp only [hi, hk]
      refine fin [wordT 2 i.a, wordT 3 i.b] [wordT 2 i.a, wordT 3 i.b] rfl [i.a, i.b] ?_ rfl rfl ec.symm
      simp only [valsW, val_word ha (by decide), val_word hb (by decide)]; rfl
    · simp only [List.mem_append, List.mem_cons, not_or]
      exact ⟨hn.2.2, by decide, hw.2.2, by decide, hv.2.2⟩
  · have hw := clean_word ha
    have hv := clean_word hb
    have hu := clean_word hc
    have hwv : (32 : UInt8) ∉ wordT 5 i.a ++ 46 :: wordT 6 i.b := by
      simp only [List.mem_append, List.mem_cons, not_or]
      exact ⟨hw.1, by decide, hv.1⟩
    rw [show partT 5 i.a = 32 :: wordT 5 i.a from rfl, show partT 6 i.b = 46 :: wordT 6 i.b from rfl]
    by_cases z0 : z = 0
    · subst z0
      have ec := oe_none hc
      rw [partT0]
      simp only [List.append_nil, List.cons_append]
      refine ⟨?_, ?_⟩
      · rw [split1_hit 32 _ _ hn.1, split1_last 32 _ hwv]
        simp only [hi, hk]
        refine fin [wordT 5 i.a ++ 46 :: wordT 6 i.b] [wordT 5 i.a, wordT 6 i.b] ?_ [i.a, i.b] ?_ rfl rfl ec.symm
        · rw [words_j _ _ (by decide) (by decide) (cut1_hit 46 _ _ hw.2.1), if_pos rfl]
        · simp only [valsW, val_word ha (by decide), val_word hb (by decide)]; rfl
      · simp only [List.mem_append, List.mem_cons, not_or]
        exact ⟨hn.2.2, by decide, hw.2.2, by decide, hv.2.2⟩
    · have e : partT z i.c = 32 :: wordT z i.c := by
        unfold partT sepB
        rw [if_neg z0, if_neg (by omega)]
      rw [e]
      simp only [List.cons_append]
      have e' : wordT 5 i.a ++ 46 :: (wordT 6 i.b ++ 32 :: wordT z i.c) = (wordT 5 i.a ++ 46 :: wordT 6 i.b) ++ 32 :: wordT z i.c := by simp
      rw [e']
      refine ⟨?_, ?_⟩
      · rw [split1_hit 32 _ _ hn.1, split1_hit 32 _ _ hwv, split1_last 32 _ hu.1]
        simp only [hi, hk]
        refine fin [wordT 5 i.a ++ 46 :: wordT 6 i.b, wordT z i.c] [wordT 5 i.a, wordT 6 i.b, wordT z i.c] ?_ [i.a, i.b, i.c] ?_ rfl rfl rfl
        · rw [words_j _ _ (by decide) (by decide) (cut1_hit 46 _ _ hw.2.1), if_neg z0]
        · simp only [valsW, val_word ha (by decide), val_word hb (by decide), val_word hc z0]; rfl
      · simp only [List.mem_append, List.mem_cons, not_or]
        exact ⟨hn.2.2, by decide, ⟨hw.2.2, by decide, hv.2.2⟩, by decide, hu.2.2⟩
  · have ec := oe_none hc
    have hw := clean_word ha
    have hv := clean_word hb
    have hwv : (32 : UInt8) ∉ wordT 10 i.a ++ 46 :: wordT 11 i.b := by
      simp only [List.mem_append, List.mem_cons, not_or]
      exact ⟨hw.1, by decide, hv.1⟩
    rw [partT0, show partT 10 i.a = 32 :: wordT 10 i.a from rfl, show partT 11 i.b = 46 :: wordT 11 i.b from rfl]
    simp only [List.append_nil, List.cons_append]
    refine ⟨?_, ?_⟩
    · rw [split1_hit 32 _ _ hn.1, split1_last 32 _ hwv]
      simp only [hi, hk]
      refine fin [wordT 10 i.a ++ 46 :: wordT 11 i.b] [wordT 10 i.a, wordT 11 i.b] ?_ [i.a, i.b] ?_ rfl rfl ec.symm
      · rw [words_j _ _ (by decide) (by decide) (cut1_hit 46 _ _ hw.2.1), if_pos rfl]
      · simp only [valsW, val_word ha (by decide), val_word hb (by decide)]; rfl
    · simp only [List.mem_append, List.mem_cons, not_or]
      exact ⟨hn.2.2, by decide, hw.2.2, by decide, hv.2.2⟩
/-! Texts -/
theorem parse_text : ∀ (l acc : List In) (t : Nat), l.length < t → acc.length + l.length ≤ 256 → firstE l = 0 → parseL t acc (textAll l) = (acc ++ l, 0)
  | [], acc, t + 1, _, _, _ => by simp [textAll, parseL]
  | i :: l, acc, t + 1, ht, hl, h => by
    obtain ⟨h1, h2⟩ := firstE_cons h
    simp only [List.length_cons] at ht hl
    obtain ⟨p1, p2⟩ := line_there h1
    have ih := parse_text l (acc ++ [i]) t (by omega) (by simp; omega) h2
    have hc := cut1_hit 10 (textAll l) (lineT i) p2
    have e : textAll (i :: l) = lineT i ++ 10 :: textAll l := rfl
    rw [← e] at hc
    cases hb : textAll (i :: l) with
    | nil =>
      rw [hb] at hc
      have := congrArg (fun q => q.2.2) hc
      cases this
    | cons b r =>
      rw [hb] at hc
      unfold parseL
      rw [hc, if_neg (by omega), if_pos rfl, p1, if_pos rfl]
      simpa using ih
end Go.Proofs.YtjpmogajlnkihaaDoor.En

/- Words for the plain laws: branches, numbers, bits, places in a list. No program in sight. -/
namespace Go.Proofs.YtjpmogajlnkihaaDoor.En
open Go
set_option linter.unusedVariables false
section
variable {R α β γ δ : Type}
theorem br_t (x y : Option R) : br true x y = x := id rfl
theorem br_f (x y : Option R) : br false x y = y := id rfl
theorem br_dec (p : Prop) [Decidable p] (x y : Option R) : br (decide p) x y = if p then x else y := by
  by_cases h : p <;> simp [br, h]
theorem br_not (c : Bool) (x y : Option R) : br (!c) x y = br c y x := by cases c <;> rfl
theorem br_and (a b : Bool) (x y : Option R) : br (a && b) x y = br a (br b x y) y := by cases a <;> rfl
theorem br_or (a b : Bool) (x y : Option R) : br (a || b) x y = br a x (br b x y) := by cases a <;> rfl
theorem bnd1_mk (a : α) (K : α → Option R) : bnd1 (some a) K = K a := id rfl
theorem bnd2_mk (a : α) (b : β) (K : α → β → Option R) : bnd2 (some (a, b)) K = K a b := id rfl
theorem bnd3_mk (a : α) (b : β) (c : γ) (K : α → β → γ → Option R) : bnd3 (some (a, b, c)) K = K a b c := id rfl
theorem bnd4_mk (a : α) (b : β) (c : γ) (d : δ) (K : α → β → γ → δ → Option R) : bnd4 (some (a, b, c, d)) K = K a b c d := id rfl
theorem bnd10_mk {a1 a2 a3 a4 a5 a6 a7 a8 a9 a10 : Type} (a : a1) (b : a2) (c : a3) (d : a4) (e : a5) (f : a6) (g : a7) (h : a8) (i : a9) (j : a10) (K : a1 → a2 → a3 → a4 → a5 → a6 → a7 → a8 → a9 → a10 → Option R) : bnd10 (some (a, b, c, d, e, f, g, h, i, j)) K = K a b c d e f g h i j := id rfl
theorem bnd5_mk {ε : Type} (a : α) (b : β) (c : γ) (d : δ) (e : ε) (K : α → β → γ → δ → ε → Option R) : bnd5 (some (a, b, c, d, e)) K = K a b c d e := id rfl
theorem at_of {xs : List α} {i : Nat} {x : α} (h : xs[i]? = some x) (K : α → Option R) : at? xs i K = K x := by simp [at?, h]
theorem at_zero (x : α) (r : List α) (K : α → Option R) : at? (x :: r) 0 K = K x := id rfl
theorem at_succ (x : α) (r : List α) (i : Nat) (K : α → Option R) : at? (x :: r) (i + 1) K = at? r i K := by simp [at?]
theorem at_mid (pre : List α) (x : α) (suf : List α) (K : α → Option R) : at? (pre ++ x :: suf) pre.length K = K x := at_of (by simp) K
theorem unInt_mk (k : IntKind) (n : Int) (K : Int → Option R) : V.unInt k (.int k n) K = K n := by simp [V.unInt]
theorem unBool_mk (b : Bool) (K : Bool → Option R) : V.unBool (.bool b) K = K b := id rfl
theorem unStr_mk (s : List UInt8) (K : List UInt8 → Option R) : V.unStr (.str s) K = K s := id rfl
theorem unBytes_mk (s : List UInt8) (K : List UInt8 → Option R) : V.unBytes (.bytes s) K = K s := id rfl
theorem unSl_mk (e : TypeId) (s : List V) (K : List V → Option R) : V.unSl e (.sl e s) K = K s := by simp [V.unSl]
theorem unAgg_mk (s : List V) (K : List V → Option R) : V.unAgg (.agg s) K = K s := id rfl
theorem unCons_mk (x : V) (r : List V) (K : V → List V → Option R) : unCons (x :: r) K = K x r := id rfl
theorem unNil_mk (K : Option R) : unNil [] K = K := id rfl
end
/-! Numbers -/
theorem w64 {n : Int} (h1 : -9223372036854775808 ≤ n) (h2 : n ≤ 9223372036854775807) : IntKind.i64.wrap n = n := by
  rw [IntKind.wrap_i64]; omega
theorem wu8 (n : Int) : IntKind.u8.wrap n = n % 256 := IntKind.wrap_u8 n
theorem fdiv_pos (a b : Int) (h : 0 < b) : a.fdiv b = a / b := by rw [Int.fdiv_eq_ediv_of_nonneg _ (by omega)]
theorem shr8 (a : Int) : shrI .i64 a 8 = a / 256 := by
  show a.fdiv (2 ^ (min (8 : Int).toNat 64)) = _
  exact fdiv_pos a 256 (by omega)
end Go.Proofs.YtjpmogajlnkihaaDoor.En
