/- Several texts in one. -/
import Derived.Test.YtjpmogajlnkihaaDoorF4
import Derived.Test.YtjpmogajlnkihaaDoorF2
import Derived.ProofKit
import Derived.OpenShut
import Derived.ChangeOld
import Derived.Below
import Derived.Test.YtjpmogajlnkihaaDoorRows
import Derived.ShutString
import Derived.Lib.SmallJoins
import Derived.Test.YtjpmogajlnkihaaDoorCards
import Derived.Test.YtjpmogajlnkihaaDoorTie
import Derived.Test.YtjpmogajlnkihaaDoorF3
import Derived.Lib.LaidTab
import Derived.LaidMore
import Derived.Handed
import Derived.WideShapes
import Derived.Lay
import Derived.Deep.LoopGhost
import Derived.Deep.DeepMust
import Derived.Shelf.Lays
import Derived.Shelf.Lays2
import Derived.Shelf.Sort.Plain
import Derived.Shelf.Slices.CompactI
import Derived.Shelf.Slices.In.SortNone
import Derived.Lib.RowBridge

set_option linter.unusedSimpArgs false
set_option linter.unusedVariables false
set_option linter.unusedSectionVars false
/- Functions of the program in plain Lean, joined to the program by evaluation; printed by a program. -/
namespace Go.Proofs.YtjpmogajlnkihaaDoor.En
open Go Go.Proofs
set_option maxRecDepth 100000
set_option linter.unusedVariables false
noncomputable def e_number {R : Type} (s : List UInt8 → Option (Int × Bool × Bool)) (ds : List D) (K : List D → Option R) : Option R :=
  match ds with
  | [.v (.str x0) .no] => bnd3 (s x0) fun r0 r1 r2 => K [.agg [.v (.int .i64 r0) .no, .v (.bool r1) .no, .v (.bool r2) .no]]
  | _ => none
theorem go_number : Goes Tryd.prog 80 := goes_of Tryd.func80 (by kernel_rfl) (c := bodyOf Tryd.f80) (by kernel_rfl)
theorem eo_number (s : List UInt8 → Option (Int × Bool × Bool)) (hs : ∀ (x0 : List UInt8) (r0 : Int) (r1 : Bool) (r2 : Bool), s x0 = some (r0, r1, r2) → PureRet Tryd.prog T 80 [.v (.str x0) .no] [.agg [.v (.int .i64 r0) .no, .v (.bool r1) .no, .v (.bool r2) .no]]) : EntOK Tryd.prog T ⟨80, e_number s⟩ := by
  refine ⟨go_number, fun R ds K r h => ?_, fun R ds K => ?_⟩
  · simp only [e_number] at h
    split at h
    · obtain ⟨r0, r1, r2, h1, h2⟩ := bnd3_some h
      exact ⟨_, h2, hs _ _ _ _ h1⟩
    · cases h
  · simp only [e_number]
    split
    · rw [bnd3_b]; rfl
    · rfl
noncomputable def e_value {R : Type} (s : Int → List UInt8 → Option (Int × Bool × Bool)) (ds : List D) (K : List D → Option R) : Option R :=
  match ds with
  | [.v (.int .i64 x0) .no, .v (.str x1) .no] => bnd3 (s x0 x1) fun r0 r1 r2 => K [.agg [.v (.int .i64 r0) .no, .v (.bool r1) .no, .v (.bool r2) .no]]
  | _ => none
noncomputable def r_value (rs : List D) (_ : Mem) : Option (Int × Bool × Bool) :=
  match rs with
  | [.agg [.v (.int .i64 r0) _, .v (.bool r1) _, .v (.bool r2) _]] => some (r0, r1, r2)
  | _ => none
noncomputable def s_value (N : Nat) (x0 : Int) (x1 : List UInt8) : Option (Int × Bool × Bool) := br (decide (x0 = 7)) (bnd1 (s_kinds N) fun l0 => bnd1 (s_IndexS N l0 x1) fun n1 => some (IntKind.i64.wrap (n1 + 2), decide (0 ≤ n1), true)) (br (decide (x0 = 5)) (br (decide (x1 = ([115, 121, 115, 116, 101, 109] : List UInt8))) (some (255, true, true)) (bnd3 (s_number N x1) fun n2 b3 b4 => br (decide (x0 = 5)) (br (decide (n2 = 255)) (some (0, false, false)) (some (n2, b3, b4))) (some (n2, b3, b4)))) (bnd3 (s_number N x1) fun n5 b6 b7 => br (decide (x0 = 5)) (br (decide (n5 = 255)) (some (0, false, false)) (some (n5, b6, b7))) (some (n5, b6, b7))))
noncomputable def cx_value (N : Nat) : Cx := { T := T, isPure := tabP [⟨57, e_kinds (s_kinds N)⟩, ⟨63, e_IndexS (s_IndexS N)⟩, ⟨80, e_number (s_number N)⟩], pureK := fun g ds K => tabK [⟨57, e_kinds (s_kinds N)⟩, ⟨63, e_IndexS (s_IndexS N)⟩, ⟨80, e_number (s_number N)⟩] g ds K, memK := fun g dst ds m K => tabMK [] g dst ds m K, meth := tabM [], keep := fun _ => [], keepX := fun _ => [], loopT := fun _ _ _ _ => none, jumps := 9 }
theorem s_value_ok (N : Nat) (x0 : Int) (x1 : List UInt8) : bodyK (cx_value N) Tryd.f65 [.v (.int .i64 x0) .no, .v (.str x1) .no] [] r_value = s_value N x0 x1 := by
  kernel_rfl
theorem go_value : Goes Tryd.prog 65 := goes_of Tryd.func65 (by kernel_rfl) (c := bodyOf Tryd.f65) (by kernel_rfl)
theorem eo_value (s : Int → List UInt8 → Option (Int × Bool × Bool)) (hs : ∀ (x0 : Int) (x1 : List UInt8) (r0 : Int) (r1 : Bool) (r2 : Bool), s x0 x1 = some (r0, r1, r2) → PureRet Tryd.prog T 65 [.v (.int .i64 x0) .no, .v (.str x1) .no] [.agg [.v (.int .i64 r0) .no, .v (.bool r1) .no, .v (.bool r2) .no]]) : EntOK Tryd.prog T ⟨65, e_value s⟩ := by
  refine ⟨go_value, fun R ds K r h => ?_, fun R ds K => ?_⟩
  · simp only [e_value] at h
    split at h
    · obtain ⟨r0, r1, r2, h1, h2⟩ := bnd3_some h
      exact ⟨_, h2, hs _ _ _ _ _ h1⟩
    · cases h
  · simp only [e_value]
    split
    · rw [bnd3_b]; rfl
    · rfl
theorem co_value (N : Nat) : CxOK Tryd.prog (cx_value N) :=
  cxOK_of2 (es := [⟨57, e_kinds (s_kinds N)⟩, ⟨63, e_IndexS (s_IndexS N)⟩, ⟨80, e_number (s_number N)⟩]) (me := []) (ms := []) T_ok ⟨eo_kinds _ (p_kinds N), eo_IndexS _ (p_IndexS N), eo_number _ (p_number N), trivial⟩ trivial trivial rfl (fun _ _ _ _ => rfl) (fun _ _ _ _ _ _ => rfl) rfl
theorem lo_value (N : Nat) : LoopsOK (cx_value N) Tryd.f65.ntmps (bodyOf Tryd.f65) :=
  loopsOK_of (k := 0) (by kernel_rfl) trivial
theorem p_value (N : Nat) (x0 : Int) (x1 : List UInt8) (r0 : Int) (r1 : Bool) (r2 : Bool) (h : s_value N x0 x1 = some (r0, r1, r2)) : PureRet Tryd.prog T 65 [.v (.int .i64 x0) .no, .v (.str x1) .no] [.agg [.v (.int .i64 r0) .no, .v (.bool r1) .no, .v (.bool r2) .no]] :=
  pure_of (cx := cx_value N) (by kernel_rfl) (co_value N) Tryd.func65 (by kernel_rfl) (by kernel_rfl) (lo_value N) rfl rfl rfl (rf := r_value) ((s_value_ok N x0 x1).trans h) (fun rs' m h => by
    unfold r_value at h
    split at h
    · cases h; exact ⟨rfl, rfl⟩
    · cases h)
noncomputable def e_line {R : Type} (s : List UInt8 → Option (Int × Int × Int × Int × Int)) (ds : List D) (K : List D → Option R) : Option R :=
  match ds with
  | [.v (.str x0) .no] => bnd5 (s x0) fun r0 r1 r2 r3 r4 => K [.agg [.v (.int .i64 r0) .no, .v (.int .i64 r1) .no, .v (.int .i64 r2) .no, .v (.int .i64 r3) .no], .v (.int .i64 r4) .no]
  | _ => none
noncomputable def r_line (rs : List D) (_ : Mem) : Option (Int × Int × Int × Int × Int) :=
  match rs with
  | [.agg [.v (.int .i64 r0) _, .v (.int .i64 r1) _, .v (.int .i64 r2) _, .v (.int .i64 r3) _], .v (.int .i64 r4) _] => some (r0, r1, r2, r3, r4)
  | _ => none
noncomputable def F_line_12 {R : Type} (N : Nat) (n0 : Int) (vs2 : List V) (n3 : Int) (n5 : Int) (n6 : Int) (n7 : Int) (n8 : Int) (n9 : Int) (n10 : Int) (n11 : Int) (Lq : Bool → Int → Int → Int → Int → Option R) (K0 : Int → Bool → Int → Int → Int → Int → Int → Int → Int → Option R) (K1 : Bool → Int → Int → Int → Option R) (b1 : Bool) (n4 : Int) (n12 : Int) (n13 : Int) (n14 : Int) : Option R := br (decide (n4 < n3)) (br (decide (0 ≤ n4) && decide (n4 < (↑vs2.length : Int))) (at? vs2 n4.toNat fun x0 => x0.unStr fun l1 => br (decide (n4 = 0)) (bnd3 (s_value N n9 l1) fun n2 b3 b4 => br (!b3) (K0 30 b1 0 0 0 0 n12 n13 n14) (br b1 (br (decide (n4 = 0)) (Lq b4 (IntKind.i64.wrap (n4 + 1)) n2 n13 n14) (br (decide (n4 = 1)) (Lq b4 (IntKind.i64.wrap (n4 + 1)) n12 n2 n14) (br (decide (n4 = 2)) (Lq b4 (IntKind.i64.wrap (n4 + 1)) n12 n13 n2) none))) (br (decide (n4 = 0)) (Lq false (IntKind.i64.wrap (n4 + 1)) n2 n13 n14) (br (decide (n4 = 1)) (Lq false (IntKind.i64.wrap (n4 + 1)) n12 n2 n14) (br (decide (n4 = 2)) (Lq false (IntKind.i64.wrap (n4 + 1)) n12 n13 n2) none))))) (br (decide (n4 = 1)) (bnd3 (s_value N n10 l1) fun n5 b6 b7 => br (!b6) (K0 30 b1 0 0 0 0 n12 n13 n14) (br b1 (br (decide (n4 = 0)) (Lq b7 (IntKind.i64.wrap (n4 + 1)) n5 n13 n14) (br (decide (n4 = 1)) (Lq b7 (IntKind.i64.wrap (n4 + 1)) n12 n5 n14) (br (decide (n4 = 2)) (Lq b7 (IntKind.i64.wrap (n4 + 1)) n12 n13 n5) none))) (br (decide (n4 = 0)) (Lq false (IntKind.i64.wrap (n4 + 1)) n5 n13 n14) (br (decide (n4 = 1)) (Lq false (IntKind.i64.wrap (n4 + 1)) n12 n5 n14) (br (decide (n4 = 2)) (Lq false (IntKind.i64.wrap (n4 + 1)) n12 n13 n5) none))))) (br (decide (n4 = 2)) (bnd3 (s_value N n11 l1) fun n8 b9 b10 => br (!b9) (K0 30 b1 0 0 0 0 n12 n13 n14) (br b1 (br (decide (n4 = 0)) (Lq b10 (IntKind.i64.wrap (n4 + 1)) n8 n13 n14) (br (decide (n4 = 1)) (Lq b10 (IntKind.i64.wrap (n4 + 1)) n12 n8 n14) (br (decide (n4 = 2)) (Lq b10 (IntKind.i64.wrap (n4 + 1)) n12 n13 n8) none))) (br (decide (n4 = 0)) (Lq false (IntKind.i64.wrap (n4 + 1)) n8 n13 n14) (br (decide (n4 = 1)) (Lq false (IntKind.i64.wrap (n4 + 1)) n12 n8 n14) (br (decide (n4 = 2)) (Lq false (IntKind.i64.wrap (n4 + 1)) n12 n13 n8) none))))) none))) none) (K1 b1 n12 n13 n14)
noncomputable def S_line_12 {R : Type} (N : Nat) (n0 : Int) (vs2 : List V) (n3 : Int) (n5 : Int) (n6 : Int) (n7 : Int) (n8 : Int) (n9 : Int) (n10 : Int) (n11 : Int) : Nat → Bool → Int → Int → Int → Int → (Int → Bool → Int → Int → Int → Int → Int → Int → Int → Option R) → (Bool → Int → Int → Int → Option R) → Option R | 0, _, _, _, _, _, _, _ => none | t + 1, b1, n4, n12, n13, n14, K0, K1 => F_line_12 N n0 vs2 n3 n5 n6 n7 n8 n9 n10 n11 (fun b1 n4 n12 n13 n14 => S_line_12 N n0 vs2 n3 n5 n6 n7 n8 n9 n10 n11 t b1 n4 n12 n13 n14 K0 K1) K0 K1 b1 n4 n12 n13 n14
noncomputable def l_line_12 {R : Type} (N : Nat) (ds : List D) (m : Mem) (K : Ex → List D → Mem → Option R) : Option R :=
  match ds, m with
  | [(.ptr 0 2 0), (.v (.int .i64 n0) .no), (.ptr 0 6 0), (.ptr 0 9 0), (.v (.bool b1) .no), .any, (.v (.sl 9 vs2) .no), (.v (.int .i64 n3) .no), (.v (.int .i64 n4) .no)], [[(2, ⟨23, [(.v (.int .i64 n5) .no), (.v (.int .i64 n6) .no), (.v (.int .i64 n7) .no), (.v (.int .i64 n8) .no)]⟩), (6, ⟨59, [(.v (.int .i64 n9) .no), (.v (.int .i64 n10) .no), (.v (.int .i64 n11) .no)]⟩), (9, ⟨57, [(.v (.int .i64 n12) .no), (.v (.int .i64 n13) .no), (.v (.int .i64 n14) .no)]⟩)]] => S_line_12 N n0 vs2 n3 n5 n6 n7 n8 n9 n10 n11 N b1 n4 n12 n13 n14 (fun a0 a2 a3 a4 a5 a6 a10 a11 a12 => K .ret [(.ptr 0 2 0), (.v (.int .i64 a0) .no), (.v (.int .i64 n0) .no), (.ptr 0 6 0), (.ptr 0 9 0), (.v (.bool a2) .no), .any] [[(2, ⟨23, [(.v (.int .i64 a3) .no), (.v (.int .i64 a4) .no), (.v (.int .i64 a5) .no), (.v (.int .i64 a6) .no)]⟩), (6, ⟨59, [(.v (.int .i64 n9) .no), (.v (.int .i64 n10) .no), (.v (.int .i64 n11) .no)]⟩), (9, ⟨57, [(.v (.int .i64 a10) .no), (.v (.int .i64 a11) .no), (.v (.int .i64 a12) .no)]⟩)]]) (fun a1 a9 a10 a11 => K (.exit 0) [(.ptr 0 2 0), .any, (.v (.int .i64 n0) .no), (.ptr 0 6 0), (.ptr 0 9 0), (.v (.bool a1) .no), .any] [[(2, ⟨23, [(.v (.int .i64 n5) .no), (.v (.int .i64 n6) .no), (.v (.int .i64 n7) .no), (.v (.int .i64 n8) .no)]⟩), (6, ⟨59, [(.v (.int .i64 n9) .no), (.v (.int .i64 n10) .no), (.v (.int .i64 n11) .no)]⟩), (9, ⟨57, [(.v (.int .i64 a9) .no), (.v (.int .i64 a10) .no), (.v (.int .i64 a11) .no)]⟩)]])
  | _, _ => none
noncomputable def s_line (N : Nat) (x0 : List UInt8) : Option (Int × Int × Int × Int × Int) := bnd1 (s_Split N x0 ([32] : List UInt8)) fun l0 => bnd1 (s_names N) fun l1 => br (decide (0 < (↑l0.length : Int))) (at? l0 0 fun x2 => x2.unStr fun l3 => bnd1 (s_IndexS N l1 l3) fun n4 => br (decide (n4 < 0)) (some (0, 0, 0, 0, 30)) (bnd3 (s_formOf N n4) fun n5 n6 n7 => br (decide (1 ≤ (↑l0.length : Int))) (bnd2 (s_words N n5 n6 n7 (List.drop 1 l0)) fun l8 b9 => br (!b9) (some (0, 0, 0, 0, 30)) (S_line_12 N n4 l8 (↑l8.length : Int) 0 0 0 0 n5 n6 n7 N true 0 0 0 0 (fun n10 b11 n12 n13 n14 n15 n16 n17 n18 => some (n12, n13, n14, n15, n10)) fun b19 n20 n21 n22 => br (!b19) (some (0, 0, 0, 0, 2)) (bnd1 (s_cCheck N n4 n20 n21 n22) fun n23 => some (n4, n20, n21, n22, n23)))) none)) none
noncomputable def cx_line (N : Nat) : Cx := { T := T, isPure := tabP [⟨62, e_Split (s_Split N)⟩, ⟨39, e_names (s_names N)⟩, ⟨63, e_IndexS (s_IndexS N)⟩, ⟨33, e_formOf (s_formOf N)⟩, ⟨64, e_words (s_words N)⟩, ⟨65, e_value (s_value N)⟩, ⟨12, e_cCheck (s_cCheck N)⟩], pureK := fun g ds K => tabK [⟨62, e_Split (s_Split N)⟩, ⟨39, e_names (s_names N)⟩, ⟨63, e_IndexS (s_IndexS N)⟩, ⟨33, e_formOf (s_formOf N)⟩, ⟨64, e_words (s_words N)⟩, ⟨65, e_value (s_value N)⟩, ⟨12, e_cCheck (s_cCheck N)⟩] g ds K, memK := fun g dst ds m K => tabMK [] g dst ds m K, meth := tabM [], keep := fun r => match r with | 12 => [2, 5, 6, 9, 10, 14, 37, 38, 39] | _ => [], keepX := fun r => match r with | 12 => [2, 3, 5, 6, 9, 10, 14] | _ => [], loopT := fun r ds m K => match r with | 12 => l_line_12 N ds m K | _ => none, jumps := 9, dyn := true }
theorem F_line_12_ok {R : Type} (N : Nat) (n0 : Int) (vs2 : List V) (n3 : Int) (n5 : Int) (n6 : Int) (n7 : Int) (n8 : Int) (n9 : Int) (n10 : Int) (n11 : Int) (b1 : Bool) (n4 : Int) (n12 : Int) (n13 : Int) (n14 : Int) (L : List D → Mem → Option R) (K : Ex → List D → Mem → Option R) :
    roundK (fun st K => codeK (cx_line N) (loopN Tryd.f46 0) st K) 77 [2, 5, 6, 9, 10, 14, 37, 38, 39] [2, 3, 5, 6, 9, 10, 14] L [(.ptr 0 2 0), (.v (.int .i64 n0) .no), (.ptr 0 6 0), (.ptr 0 9 0), (.v (.bool b1) .no), .any, (.v (.sl 9 vs2) .no), (.v (.int .i64 n3) .no), (.v (.int .i64 n4) .no)] [[(2, ⟨23, [(.v (.int .i64 n5) .no), (.v (.int .i64 n6) .no), (.v (.int .i64 n7) .no), (.v (.int .i64 n8) .no)]⟩), (6, ⟨59, [(.v (.int .i64 n9) .no), (.v (.int .i64 n10) .no), (.v (.int .i64 n11) .no)]⟩), (9, ⟨57, [(.v (.int .i64 n12) .no), (.v (.int .i64 n13) .no), (.v (.int .i64 n14) .no)]⟩)]] K = F_line_12 N n0 vs2 n3 n5 n6 n7 n8 n9 n10 n11 (fun b1 n4 n12 n13 n14 => L [(.ptr 0 2 0), (.v (.int .i64 n0) .no), (.ptr 0 6 0), (.ptr 0 9 0), (.v (.bool b1) .no), .any, (.v (.sl 9 vs2) .no), (.v (.int .i64 n3) .no), (.v (.int .i64 n4) .no)] [[(2, ⟨23, [(.v (.int .i64 n5) .no), (.v (.int .i64 n6) .no), (.v (.int .i64 n7) .no), (.v (.int .i64 n8) .no)]⟩), (6, ⟨59, [(.v (.int .i64 n9) .no), (.v (.int .i64 n10) .no), (.v (.int .i64 n11) .no)]⟩), (9, ⟨57, [(.v (.int .i64 n12) .no), (.v (.int .i64 n13) .no), (.v (.int .i64 n14) .no)]⟩)]]) (fun a0 a2 a3 a4 a5 a6 a10 a11 a12 => K .ret [(.ptr 0 2 0), (.v (.int .i64 a0) .no), (.v (.int .i64 n0) .no), (.ptr 0 6 0), (.ptr 0 9 0), (.v (.bool a2) .no), .any] [[(2, ⟨23, [(.v (.int .i64 a3) .no), (.v (.int .i64 a4) .no), (.v (.int .i64 a5) .no), (.v (.int .i64 a6) .no)]⟩), (6, ⟨59, [(.v (.int .i64 n9) .no), (.v (.int .i64 n10) .no), (.v (.int .i64 n11) .no)]⟩), (9, ⟨57, [(.v (.int .i64 a10) .no), (.v (.int .i64 a11) .no), (.v (.int .i64 a12) .no)]⟩)]]) (fun a1 a9 a10 a11 => K (.exit 0) [(.ptr 0 2 0), .any, (.v (.int .i64 n0) .no), (.ptr 0 6 0), (.ptr 0 9 0), (.v (.bool a1) .no), .any] [[(2, ⟨23, [(.v (.int .i64 n5) .no), (.v (.int .i64 n6) .no), (.v (.int .i64 n7) .no), (.v (.int .i64 n8) .no)]⟩), (6, ⟨59, [(.v (.int .i64 n9) .no), (.v (.int .i64 n10) .no), (.v (.int .i64 n11) .no)]⟩), (9, ⟨57, [(.v (.int .i64 a9) .no), (.v (.int .i64 a10) .no), (.v (.int .i64 a11) .no)]⟩)]]) b1 n4 n12 n13 n14 := by
  kernel_rfl
theorem S_line_12_ok {R : Type} (N : Nat) (n0 : Int) (vs2 : List V) (n3 : Int) (n5 : Int) (n6 : Int) (n7 : Int) (n8 : Int) (n9 : Int) (n10 : Int) (n11 : Int) (K : Ex → List D → Mem → Option R) : ∀ (t : Nat) (b1 : Bool) (n4 : Int) (n12 : Int) (n13 : Int) (n14 : Int),
    loopK (fun st K => codeK (cx_line N) (loopN Tryd.f46 0) st K) 77 [2, 5, 6, 9, 10, 14, 37, 38, 39] [2, 3, 5, 6, 9, 10, 14] t [(.ptr 0 2 0), (.v (.int .i64 n0) .no), (.ptr 0 6 0), (.ptr 0 9 0), (.v (.bool b1) .no), .any, (.v (.sl 9 vs2) .no), (.v (.int .i64 n3) .no), (.v (.int .i64 n4) .no)] [[(2, ⟨23, [(.v (.int .i64 n5) .no), (.v (.int .i64 n6) .no), (.v (.int .i64 n7) .no), (.v (.int .i64 n8) .no)]⟩), (6, ⟨59, [(.v (.int .i64 n9) .no), (.v (.int .i64 n10) .no), (.v (.int .i64 n11) .no)]⟩), (9, ⟨57, [(.v (.int .i64 n12) .no), (.v (.int .i64 n13) .no), (.v (.int .i64 n14) .no)]⟩)]] K = S_line_12 N n0 vs2 n3 n5 n6 n7 n8 n9 n10 n11 t b1 n4 n12 n13 n14 (fun a0 a2 a3 a4 a5 a6 a10 a11 a12 => K .ret [(.ptr 0 2 0), (.v (.int .i64 a0) .no), (.v (.int .i64 n0) .no), (.ptr 0 6 0), (.ptr 0 9 0), (.v (.bool a2) .no), .any] [[(2, ⟨23, [(.v (.int .i64 a3) .no), (.v (.int .i64 a4) .no), (.v (.int .i64 a5) .no), (.v (.int .i64 a6) .no)]⟩), (6, ⟨59, [(.v (.int .i64 n9) .no), (.v (.int .i64 n10) .no), (.v (.int .i64 n11) .no)]⟩), (9, ⟨57, [(.v (.int .i64 a10) .no), (.v (.int .i64 a11) .no), (.v (.int .i64 a12) .no)]⟩)]]) (fun a1 a9 a10 a11 => K (.exit 0) [(.ptr 0 2 0), .any, (.v (.int .i64 n0) .no), (.ptr 0 6 0), (.ptr 0 9 0), (.v (.bool a1) .no), .any] [[(2, ⟨23, [(.v (.int .i64 n5) .no), (.v (.int .i64 n6) .no), (.v (.int .i64 n7) .no), (.v (.int .i64 n8) .no)]⟩), (6, ⟨59, [(.v (.int .i64 n9) .no), (.v (.int .i64 n10) .no), (.v (.int .i64 n11) .no)]⟩), (9, ⟨57, [(.v (.int .i64 a9) .no), (.v (.int .i64 a10) .no), (.v (.int .i64 a11) .no)]⟩)]])
  | 0, b1, n4, n12, n13, n14 => rfl
  | t + 1, b1, n4, n12, n13, n14 => (F_line_12_ok N n0 vs2 n3 n5 n6 n7 n8 n9 n10 n11 b1 n4 n12 n13 n14 _ K).trans (congrArg (fun L => F_line_12 N n0 vs2 n3 n5 n6 n7 n8 n9 n10 n11 L (fun a0 a2 a3 a4 a5 a6 a10 a11 a12 => K .ret [(.ptr 0 2 0), (.v (.int .i64 a0) .no), (.v (.int .i64 n0) .no), (.ptr 0 6 0), (.ptr 0 9 0), (.v (.bool a2) .no), .any] [[(2, ⟨23, [(.v (.int .i64 a3) .no), (.v (.int .i64 a4) .no), (.v (.int .i64 a5) .no), (.v (.int .i64 a6) .no)]⟩), (6, ⟨59, [(.v (.int .i64 n9) .no), (.v (.int .i64 n10) .no), (.v (.int .i64 n11) .no)]⟩), (9, ⟨57, [(.v (.int .i64 a10) .no), (.v (.int .i64 a11) .no), (.v (.int .i64 a12) .no)]⟩)]]) (fun a1 a9 a10 a11 => K (.exit 0) [(.ptr 0 2 0), .any, (.v (.int .i64 n0) .no), (.ptr 0 6 0), (.ptr 0 9 0), (.v (.bool a1) .no), .any] [[(2, ⟨23, [(.v (.int .i64 n5) .no), (.v (.int .i64 n6) .no), (.v (.int .i64 n7) .no), (.v (.int .i64 n8) .no)]⟩), (6, ⟨59, [(.v (.int .i64 n9) .no), (.v (.int .i64 n10) .no), (.v (.int .i64 n11) .no)]⟩), (9, ⟨57, [(.v (.int .i64 a9) .no), (.v (.int .i64 a10) .no), (.v (.int .i64 a11) .no)]⟩)]]) b1 n4 n12 n13 n14) (funext fun b1 => funext fun n4 => funext fun n12 => funext fun n13 => funext fun n14 => S_line_12_ok N n0 vs2 n3 n5 n6 n7 n8 n9 n10 n11 K t b1 n4 n12 n13 n14))
theorem s_line_ok (N : Nat) (x0 : List UInt8) : bodyK (cx_line N) Tryd.f46 [.v (.str x0) .no] [] r_line = s_line N x0 := by
  kernel_rfl
theorem go_line : Goes Tryd.prog 46 := goes_of Tryd.func46 (by kernel_rfl) (c := bodyOf Tryd.f46) (by kernel_rfl)
theorem eo_line (s : List UInt8 → Option (Int × Int × Int × Int × Int)) (hs : ∀ (x0 : List UInt8) (r0 : Int) (r1 : Int) (r2 : Int) (r3 : Int) (r4 : Int), s x0 = some (r0, r1, r2, r3, r4) → PureRet Tryd.prog T 46 [.v (.str x0) .no] [.agg [.v (.int .i64 r0) .no, .v (.int .i64 r1) .no, .v (.int .i64 r2) .no, .v (.int .i64 r3) .no], .v (.int .i64 r4) .no]) : EntOK Tryd.prog T ⟨46, e_line s⟩ := by
  refine ⟨go_line, fun R ds K r h => ?_, fun R ds K => ?_⟩
  · simp only [e_line] at h
    split at h
    · obtain ⟨r0, r1, r2, r3, r4, h1, h2⟩ := bnd5_some h
      exact ⟨_, h2, hs _ _ _ _ _ _ h1⟩
    · cases h
  · simp only [e_line]
    split
    · rw [bnd5_b]; rfl
    · rfl
theorem co_line (N : Nat) : CxOK Tryd.prog (cx_line N) :=
  cxOK_of2 (es := [⟨62, e_Split (s_Split N)⟩, ⟨39, e_names (s_names N)⟩, ⟨63, e_IndexS (s_IndexS N)⟩, ⟨33, e_formOf (s_formOf N)⟩, ⟨64, e_words (s_words N)⟩, ⟨65, e_value (s_value N)⟩, ⟨12, e_cCheck (s_cCheck N)⟩]) (me := []) (ms := []) T_ok ⟨eo_Split _ (p_Split N), eo_names _ (p_names N), eo_IndexS _ (p_IndexS N), eo_formOf _ (p_formOf N), eo_words _ (p_words N), eo_value _ (p_value N), eo_cCheck _ (p_cCheck N), trivial⟩ trivial trivial rfl (fun _ _ _ _ => rfl) (fun _ _ _ _ _ _ => rfl) rfl
theorem lk_line_12 (N : Nat) : LoopOK (cx_line N) 77 (loopN Tryd.f46 0) := by
  refine loopOK_of (rid := 12) (by kernel_rfl) rfl rfl fun R ds m K r h => ?_
  have h : l_line_12 N ds m K = some r := h
  unfold l_line_12 at h
  split at h
  · exact ⟨N, Eq.trans (S_line_12_ok ..) h⟩
  · cases h
theorem lo_line (N : Nat) : LoopsOK (cx_line N) Tryd.f46.ntmps (bodyOf Tryd.f46) :=
  loopsOK_of (k := 1) (by kernel_rfl) ⟨trivial, lk_line_12 N⟩
theorem p_line (N : Nat) (x0 : List UInt8) (r0 : Int) (r1 : Int) (r2 : Int) (r3 : Int) (r4 : Int) (h : s_line N x0 = some (r0, r1, r2, r3, r4)) : PureRet Tryd.prog T 46 [.v (.str x0) .no] [.agg [.v (.int .i64 r0) .no, .v (.int .i64 r1) .no, .v (.int .i64 r2) .no, .v (.int .i64 r3) .no], .v (.int .i64 r4) .no] :=
  pure_of (cx := cx_line N) (by kernel_rfl) (co_line N) Tryd.func46 (by kernel_rfl) (by kernel_rfl) (lo_line N) rfl rfl rfl (rf := r_line) ((s_line_ok N x0).trans h) (fun rs' m h => by
    unfold r_line at h
    split at h
    · cases h; exact ⟨rfl, rfl⟩
    · cases h)
noncomputable def e_cParse {R : Type} (s : List UInt8 → Option (List V × Int)) (ds : List D) (K : List D → Option R) : Option R :=
  match ds with
  | [.v (.str x0) .no] => bnd2 (s x0) fun r0 r1 => K [.v (.sl 23 r0) .no, .v (.int .i64 r1) .no]
  | _ => none
noncomputable def r_cParse (rs : List D) (_ : Mem) : Option (List V × Int) :=
  match rs with
  | [.v (.sl 23 r0) _, .v (.int .i64 r1) _] => some (r0, r1)
  | _ => none
noncomputable def F_cParse_2 {R : Type} (N : Nat)  (Lq : List UInt8 → List V → Option R) (K0 : List V → Int → List V → Option R) (K1 : List V → Option R) (l0 : List UInt8) (vs1 : List V) : Option R := br (!decide (l0 = [])) (br (decide ((↑vs1.length : Int) = 256)) (K0 [] 3 vs1) (bnd3 (s_Cut N l0 ([10] : List UInt8)) fun l0 l1 b2 => br (!b2) (K0 [] 30 vs1) (bnd5 (s_line N l0) fun n3 n4 n5 n6 n7 => br (!decide (n7 = 0)) (K0 [] n7 vs1) (br (decide ((vs1.length + [V.agg [V.int IntKind.i64 n3, V.int IntKind.i64 n4, V.int IntKind.i64 n5, V.int IntKind.i64 n6]].length) * 32 ≤ 140737488355328)) (Lq l1 (vs1 ++ [V.agg [V.int IntKind.i64 n3, V.int IntKind.i64 n4, V.int IntKind.i64 n5, V.int IntKind.i64 n6]])) none)))) (K1 vs1)
noncomputable def S_cParse_2 {R : Type} (N : Nat)  : Nat → List UInt8 → List V → (List V → Int → List V → Option R) → (List V → Option R) → Option R | 0, _, _, _, _ => none | t + 1, l0, vs1, K0, K1 => F_cParse_2 N  (fun l0 vs1 => S_cParse_2 N  t l0 vs1 K0 K1) K0 K1 l0 vs1
noncomputable def l_cParse_2 {R : Type} (N : Nat) (ds : List D) (m : Mem) (K : Ex → List D → Mem → Option R) : Option R :=
  match ds, m with
  | [(.v (.str l0) .no), (.v (.sl 23 vs1) (.own (.slot 4) 23))], [[]] => S_cParse_2 N  N l0 vs1 (fun a0 a1 a2 => K .ret [(.v (.sl 23 a0) (.own (.slot 2) 23)), (.v (.int .i64 a1) .no), (.v (.sl 23 a2) (.own (.slot 4) 23))] [[]]) (fun a0 => K (.exit 0) [.any, .any, (.v (.sl 23 a0) (.own (.slot 4) 23))] [[]])
  | _, _ => none
noncomputable def s_cParse (N : Nat) (x0 : List UInt8) : Option (List V × Int) := S_cParse_2 N N x0 [] (fun l0 n1 l2 => some (l0, n1)) fun l3 => some (l3, 0)
noncomputable def cx_cParse (N : Nat) : Cx := { T := T, isPure := tabP [⟨45, e_Cut (s_Cut N)⟩, ⟨46, e_line (s_line N)⟩], pureK := fun g ds K => tabK [⟨45, e_Cut (s_Cut N)⟩, ⟨46, e_line (s_line N)⟩] g ds K, memK := fun g dst ds m K => tabMK [] g dst ds m K, meth := tabM [], keep := fun r => match r with | 2 => [0, 4] | _ => [], keepX := fun r => match r with | 2 => [2, 3, 4] | _ => [], loopT := fun r ds m K => match r with | 2 => l_cParse_2 N ds m K | _ => none, jumps := 9 }
theorem F_cParse_2_ok {R : Type} (N : Nat)  (l0 : List UInt8) (vs1 : List V) (L : List D → Mem → Option R) (K : Ex → List D → Mem → Option R) :
    roundK (fun st K => codeK (cx_cParse N) (loopN Tryd.f20 0) st K) 37 [0, 4] [2, 3, 4] L [(.v (.str l0) .no), (.v (.sl 23 vs1) (.own (.slot 4) 23))] [[]] K = F_cParse_2 N  (fun l0 vs1 => L [(.v (.str l0) .no), (.v (.sl 23 vs1) (.own (.slot 4) 23))] [[]]) (fun a0 a1 a2 => K .ret [(.v (.sl 23 a0) (.own (.slot 2) 23)), (.v (.int .i64 a1) .no), (.v (.sl 23 a2) (.own (.slot 4) 23))] [[]]) (fun a0 => K (.exit 0) [.any, .any, (.v (.sl 23 a0) (.own (.slot 4) 23))] [[]]) l0 vs1 := by
  kernel_rfl
theorem S_cParse_2_ok {R : Type} (N : Nat)  (K : Ex → List D → Mem → Option R) : ∀ (t : Nat) (l0 : List UInt8) (vs1 : List V),
    loopK (fun st K => codeK (cx_cParse N) (loopN Tryd.f20 0) st K) 37 [0, 4] [2, 3, 4] t [(.v (.str l0) .no), (.v (.sl 23 vs1) (.own (.slot 4) 23))] [[]] K = S_cParse_2 N  t l0 vs1 (fun a0 a1 a2 => K .ret [(.v (.sl 23 a0) (.own (.slot 2) 23)), (.v (.int .i64 a1) .no), (.v (.sl 23 a2) (.own (.slot 4) 23))] [[]]) (fun a0 => K (.exit 0) [.any, .any, (.v (.sl 23 a0) (.own (.slot 4) 23))] [[]])
  | 0, l0, vs1 => rfl
  | t + 1, l0, vs1 => (F_cParse_2_ok N  l0 vs1 _ K).trans (congrArg (fun L => F_cParse_2 N  L (fun a0 a1 a2 => K .ret [(.v (.sl 23 a0) (.own (.slot 2) 23)), (.v (.int .i64 a1) .no), (.v (.sl 23 a2) (.own (.slot 4) 23))] [[]]) (fun a0 => K (.exit 0) [.any, .any, (.v (.sl 23 a0) (.own (.slot 4) 23))] [[]]) l0 vs1) (funext fun l0 => funext fun vs1 => S_cParse_2_ok N  K t l0 vs1))
theorem s_cParse_ok (N : Nat) (x0 : List UInt8) : bodyK (cx_cParse N) Tryd.f20 [.v (.str x0) .no] [] r_cParse = s_cParse N x0 := by
  kernel_rfl
theorem go_cParse : Goes Tryd.prog 20 := goes_of Tryd.func20 (by kernel_rfl) (c := bodyOf Tryd.f20) (by kernel_rfl)
theorem eo_cParse (s : List UInt8 → Option (List V × Int)) (hs : ∀ (x0 : List UInt8) (r0 : List V) (r1 : Int), s x0 = some (r0, r1) → PureRet Tryd.prog T 20 [.v (.str x0) .no] [.v (.sl 23 r0) .no, .v (.int .i64 r1) .no]) : EntOK Tryd.prog T ⟨20, e_cParse s⟩ := by
  refine ⟨go_cParse, fun R ds K r h => ?_, fun R ds K => ?_⟩
  · simp only [e_cParse] at h
    split at h
    · obtain ⟨r0, r1, h1, h2⟩ := bnd2_some h
      exact ⟨_, h2, hs _ _ _ h1⟩
    · cases h
  · simp only [e_cParse]
    split
    · rw [bnd2_b]; rfl
    · rfl
theorem co_cParse (N : Nat) : CxOK Tryd.prog (cx_cParse N) :=
  cxOK_of2 (es := [⟨45, e_Cut (s_Cut N)⟩, ⟨46, e_line (s_line N)⟩]) (me := []) (ms := []) T_ok ⟨eo_Cut _ (p_Cut N), eo_line _ (p_line N), trivial⟩ trivial trivial rfl (fun _ _ _ _ => rfl) (fun _ _ _ _ _ _ => rfl) rfl
theorem lk_cParse_2 (N : Nat) : LoopOK (cx_cParse N) 37 (loopN Tryd.f20 0) := by
  refine loopOK_of (rid := 2) (by kernel_rfl) rfl rfl fun R ds m K r h => ?_
  have h : l_cParse_2 N ds m K = some r := h
  unfold l_cParse_2 at h
  split at h
  · exact ⟨N, Eq.trans (S_cParse_2_ok ..) h⟩
  · cases h
theorem lo_cParse (N : Nat) : LoopsOK (cx_cParse N) Tryd.f20.ntmps (bodyOf Tryd.f20) :=
  loopsOK_of (k := 1) (by kernel_rfl) ⟨trivial, lk_cParse_2 N⟩
theorem p_cParse (N : Nat) (x0 : List UInt8) (r0 : List V) (r1 : Int) (h : s_cParse N x0 = some (r0, r1)) : PureRet Tryd.prog T 20 [.v (.str x0) .no] [.v (.sl 23 r0) .no, .v (.int .i64 r1) .no] :=
  pure_of (cx := cx_cParse N) (by kernel_rfl) (co_cParse N) Tryd.func20 (by kernel_rfl) (by kernel_rfl) (lo_cParse N) rfl rfl rfl (rf := r_cParse) ((s_cParse_ok N x0).trans h) (fun rs' m h => by
    unfold r_cParse at h
    split at h
    · cases h; exact ⟨rfl, rfl⟩
    · cases h)
end Go.Proofs.YtjpmogajlnkihaaDoor.En

/- The printed functions, together. -/

/- Which instructions are valid: the program and the reference. -/
namespace Go.Proofs.YtjpmogajlnkihaaDoor.En
open Go
set_option linter.unusedVariables false
section
variable (N : Nat) {R : Type}
theorem formOf_tab : ∀ k : Fin 54, s_formOf 0 (k.val : Int) = some (fA (k.val : Int), fB (k.val : Int), fC (k.val : Int)) := by decide +kernel
theorem rForms_tab : ∀ k : Fin 54, s_rForms 0 (k.val : Int) = some (fA (k.val : Int), fB (k.val : Int), fC (k.val : Int)) := by decide +kernel
theorem formOf_eq {op : Int} (h0 : 0 ≤ op) (h1 : op < 54) : s_formOf N op = some (fA op, fB op, fC op) :=
  each54 (P := fun op => s_formOf 0 op = some (fA op, fB op, fC op)) formOf_tab h0 h1
theorem rForms_eq {op : Int} (h0 : 0 ≤ op) (h1 : op < 54) : s_rForms N op = some (fA op, fB op, fC op) :=
  each54 (P := fun op => s_rForms 0 op = some (fA op, fB op, fC op)) rForms_tab h0 h1
theorem limits_eq (f p : Int) : s_limits N f p = some (lim f p) := by
  unfold s_limits lim
  simp only [br_dec, apply_ite some]
theorem rlimits_eq {f : Int} (p : Int) (h5 : f ≠ 5) : s_rlimits N f p = some (lim f p) := by
  by_cases c6 : f = 6
  · subst c6
    by_cases hp : p = 255
    · subst hp; rfl
    · have e : lim 6 p = (0, 31) := by
        show (if p = 255 then ((0 : Int), (1 : Int)) else (0, 31)) = _
        rw [if_neg hp]
      rw [e]
      show br (decide (p = 255)) (some (0, 1)) (some (0, 31)) = _
      rw [br_dec, if_neg hp]
  unfold s_rlimits lim
  simp only [br_dec, apply_ite some, h5, c6, if_false]
theorem oe_two {f n p : Int} (h0 : f ≠ 0) (a : n < (lim f p).1 ∨ (lim f p).2 < n) (c : ¬ (f = 5 ∧ n = 255)) : oe f n p = 2 := by
  unfold oe; rw [if_neg h0, if_pos ⟨a, c⟩]
theorem oe_zero {f n p : Int} (h0 : f ≠ 0) (h : ¬ ((n < (lim f p).1 ∨ (lim f p).2 < n) ∧ ¬ (f = 5 ∧ n = 255))) : oe f n p = 0 := by
  unfold oe; rw [if_neg h0, if_neg h]
theorem oe_five {n p : Int} : oe 5 n p = if (n < 0 ∨ 4 < n) ∧ n ≠ 255 then 2 else 0 := by
  have e : lim 5 p = (0, 4) := rfl
  unfold oe
  rw [if_neg (by decide), e]
  simp
theorem roperand_eq (f n p : Int) : s_roperand N f n p = some (oe f n p) := by
  unfold s_roperand
  simp only [br_dec, br_not]
  by_cases c0 : f = 0
  · subst c0
    unfold oe
    rw [if_pos rfl, if_pos rfl, apply_ite some]
  rw [if_neg c0]
  by_cases c5 : f = 5
  · subst c5
    rw [if_pos rfl, oe_five]
    by_cases c : n = 255
    · subst c; rfl
    by_cases a : 0 ≤ n
    · by_cases b : n ≤ 4
      · rw [if_pos a, if_pos b, if_neg (by omega)]
      · rw [if_pos a, if_neg b, if_neg c, if_pos (by omega)]
    · rw [if_neg a, if_neg c, if_pos (by omega)]
  rw [if_neg c5, rlimits_eq N p c5]
  show (if n < (lim f p).1 then some 2 else if (lim f p).2 < n then some 2 else some 0) = _
  by_cases a : n < (lim f p).1
  · rw [if_pos a, oe_two c0 (Or.inl a) fun h => c5 h.1]
  rw [if_neg a]
  by_cases b : (lim f p).2 < n
  · rw [if_pos b, oe_two c0 (Or.inr b) fun h => c5 h.1]
  · rw [if_neg b, oe_zero c0 fun h => h.1.elim a b]
theorem oe_pack {f : Int} (n p q : Int) (h : f ≠ 6) : oe f n p = oe f n q := by
  unfold oe lim
  simp only [h, if_false]
theorem fA_six {op : Int} (h0 : 0 ≤ op) (h1 : op < 54) : fA op ≠ 6 :=
  each54 (P := fun op => fA op ≠ 6) (by decide +kernel) h0 h1
theorem rCheck_eq (i : In) : s_rCheck N i.op i.a i.b i.c = some (chk i) := by
  unfold s_rCheck chk
  simp only [br_dec]
  by_cases h0 : i.op < 0
  · rw [if_pos h0, if_pos h0]
  rw [if_neg h0, if_neg h0]
  by_cases h1 : 54 ≤ i.op
  · rw [if_pos h1, if_pos h1]
  rw [if_neg h1, if_neg h1, rForms_eq N (by omega) (by omega), bnd3_mk]
  simp only [roperand_eq, bnd1_mk]
  rw [oe_pack i.a 0 i.a (fA_six (by omega) (by omega))]
  by_cases a : oe (fA i.op) i.a i.a = 0
  · rw [if_pos a, if_pos a]
    by_cases b : oe (fB i.op) i.b i.a = 0
    · rw [if_pos b, if_pos b]
    · rw [if_neg b, if_neg b]
  · rw [if_neg a, if_neg a, if_neg a]
noncomputable def stO (f n p : Int) (K0 : Int → Option R) (L : Option R) : Option R :=
  br (decide (f = 0)) (br (!decide (n = 0)) (K0 4) L) (bnd2 (s_limits N f p) fun lo hi =>
    br (decide (n < lo)) (br (decide (f = 5)) (br (!decide (n = 255)) (K0 2) L) (K0 2)) (br (decide (hi < n)) (br (decide (f = 5)) (br (!decide (n = 255)) (K0 2) L) (K0 2)) L))
theorem stO_eq (f n p : Int) (K0 : Int → Option R) (L : Option R) : stO N f n p K0 L = if oe f n p = 0 then L else K0 (oe f n p) := by
  unfold stO
  rw [limits_eq]
  simp only [br_dec, br_not]
  by_cases c0 : f = 0
  · subst c0
    rw [if_pos rfl]
    unfold oe
    rw [if_pos rfl]
    by_cases c : n = 0
    · rw [if_pos c, if_pos c, if_pos rfl]
    · rw [if_neg c, if_neg c, if_neg (by decide)]
  rw [if_neg c0]
  show (if n < (lim f p).1 then (if f = 5 then (if n = 255 then L else K0 2) else K0 2) else if (lim f p).2 < n then (if f = 5 then (if n = 255 then L else K0 2) else K0 2) else L) = _
  by_cases a : n < (lim f p).1 ∨ (lim f p).2 < n
  · have e : (if n < (lim f p).1 then (if f = 5 then (if n = 255 then L else K0 2) else K0 2) else if (lim f p).2 < n then (if f = 5 then (if n = 255 then L else K0 2) else K0 2) else L) = (if f = 5 then (if n = 255 then L else K0 2) else K0 2) := by
      by_cases a1 : n < (lim f p).1
      · rw [if_pos a1]
      · rw [if_neg a1, if_pos (a.resolve_left a1)]
    rw [e]
    by_cases c : f = 5 ∧ n = 255
    · rw [if_pos c.1, if_pos c.2, oe_zero c0 (fun h => h.2 c), if_pos rfl]
    · rw [oe_two c0 a c, if_neg (show ¬ (2 : Int) = 0 by decide)]
      by_cases c1 : f = 5
      · rw [if_pos c1, if_neg (fun h => c ⟨c1, h⟩)]
      · rw [if_neg c1]
  · rw [if_neg (fun h => a (Or.inl h)), if_neg (fun h => a (Or.inr h)), oe_zero c0 (fun h => a h.1), if_pos rfl]
theorem cCheck_eq (hN : 10 < N) (i : In) : s_cCheck N i.op i.a i.b i.c = some (chk i) := by
  obtain ⟨t, ht⟩ : ∃ t, N = t + 4 := ⟨N - 4, by omega⟩
  unfold s_cCheck chk
  simp only [br_dec]
  by_cases h0 : i.op < 0
  · rw [if_pos h0, if_pos h0]
  rw [if_neg h0, if_neg h0]
  by_cases h1 : 54 ≤ i.op
  · rw [if_pos h1, if_pos h1]
  rw [if_neg h1, if_neg h1, formOf_eq N (by omega) (by omega)]
  show S_cCheck_5 N (fA i.op) (fB i.op) (fC i.op) i.op i.a i.b i.c i.a i.b i.c N 0 (fun n6 => some n6) (some 0) = _
  have e3 : ∀ u, S_cCheck_5 N (fA i.op) (fB i.op) (fC i.op) i.op i.a i.b i.c i.a i.b i.c (u + 1) 3 (fun n6 => some n6) (some 0) = some 0 := fun u => id rfl
  have e2 : ∀ u, S_cCheck_5 N (fA i.op) (fB i.op) (fC i.op) i.op i.a i.b i.c i.a i.b i.c (u + 1) 2 (fun n6 => some n6) (some 0) = stO N (fC i.op) i.c i.a (fun n6 => some n6) (S_cCheck_5 N (fA i.op) (fB i.op) (fC i.op) i.op i.a i.b i.c i.a i.b i.c u 3 (fun n6 => some n6) (some 0)) := fun u => id rfl
  have e1 : ∀ u, S_cCheck_5 N (fA i.op) (fB i.op) (fC i.op) i.op i.a i.b i.c i.a i.b i.c (u + 1) 1 (fun n6 => some n6) (some 0) = stO N (fB i.op) i.b i.a (fun n6 => some n6) (S_cCheck_5 N (fA i.op) (fB i.op) (fC i.op) i.op i.a i.b i.c i.a i.b i.c u 2 (fun n6 => some n6) (some 0)) := fun u => id rfl
  have e0 : ∀ u, S_cCheck_5 N (fA i.op) (fB i.op) (fC i.op) i.op i.a i.b i.c i.a i.b i.c (u + 1) 0 (fun n6 => some n6) (some 0) = stO N (fA i.op) i.a i.a (fun n6 => some n6) (S_cCheck_5 N (fA i.op) (fB i.op) (fC i.op) i.op i.a i.b i.c i.a i.b i.c u 1 (fun n6 => some n6) (some 0)) := fun u => id rfl
  have key : ∀ u, S_cCheck_5 N (fA i.op) (fB i.op) (fC i.op) i.op i.a i.b i.c i.a i.b i.c (u + 4) 0 (fun n6 => some n6) (some 0) = some (if oe (fA i.op) i.a i.a = 0 then (if oe (fB i.op) i.b i.a = 0 then oe (fC i.op) i.c i.a else oe (fB i.op) i.b i.a) else oe (fA i.op) i.a i.a) := by
    intro u
    rw [e0, e1, e2, e3, stO_eq, stO_eq, stO_eq]
    by_cases a : oe (fA i.op) i.a i.a = 0
    · rw [if_pos a, if_pos a]
      by_cases b : oe (fB i.op) i.b i.a = 0
      · rw [if_pos b, if_pos b]
        by_cases c : oe (fC i.op) i.c i.a = 0
        · rw [if_pos c, c]
        · rw [if_neg c]
      · rw [if_neg b, if_neg b]
    · rw [if_neg a, if_neg a]
  have := key t
  rw [← ht] at this
  exact this
end
end Go.Proofs.YtjpmogajlnkihaaDoor.En

/- Instructions encoded: the program and the reference. -/
namespace Go.Proofs.YtjpmogajlnkihaaDoor.En
open Go
set_option linter.unusedVariables false
def iV (i : In) : V := .agg [.int .i64 i.op, .int .i64 i.a, .int .i64 i.b, .int .i64 i.c]
def iE : List In → List V
  | [] => []
  | i :: l => iV i :: iE l
theorem iE_len : ∀ l : List In, (iE l).length = l.length
  | [] => rfl
  | r :: l => by simp [iE, iE_len l]
theorem iE_append : ∀ a b : List In, iE (a ++ b) = iE a ++ iE b
  | [], b => rfl
  | r :: a, b => by simp [iE, iE_append a b]
theorem midV (pre : List V) (x : V) (suf : List V) : pre ++ x :: suf = (pre ++ [x]) ++ suf := by simp
theorem stepV (pre : List V) (x : V) (suf : List V) (h : pre.length + (suf.length + 1) ≤ 9223372036854775807) :
    (pre.length : Int) < ((pre ++ x :: suf).length : Int) ∧ (0 : Int) ≤ pre.length ∧ IntKind.i64.wrap ((pre.length : Int) + 1) = ((pre ++ [x]).length : Int) := by
  refine ⟨by simp; omega, by omega, ?_⟩
  rw [w64 (by omega) (by omega)]; simp
theorem endV (pre : List V) : ¬ ((pre.length : Int) < ((pre ++ ([] : List V)).length : Int)) := by simp
theorem shr16 (a : Int) : shrI .i64 a 16 = a / 65536 := by
  show a.fdiv (2 ^ (min (16 : Int).toNat 64)) = _
  exact fdiv_pos a 65536 (by omega)
theorem shr24 (a : Int) : shrI .i64 a 24 = a / 16777216 := by
  show a.fdiv (2 ^ (min (24 : Int).toNat 64)) = _
  exact fdiv_pos a 16777216 (by omega)
theorem byteI_def (n : Int) : UInt8.ofNat (n % 256).toNat = byteI n := id rfl
section
variable (N : Nat) {R : Type}
noncomputable def stE (f n : Int) (l0 : List UInt8) (L : List UInt8 → Option R) : Option R :=
  br (decide (f = 0)) (L l0) (br (decide (f = 1))
    (br (decide ((l0.length + [UInt8.ofNat (IntKind.u8.wrap (shrI IntKind.i64 n 24)).toNat, UInt8.ofNat (IntKind.u8.wrap (shrI IntKind.i64 n 16)).toNat, UInt8.ofNat (IntKind.u8.wrap (shrI IntKind.i64 n 8)).toNat, UInt8.ofNat (IntKind.u8.wrap n).toNat].length) * 1 ≤ 140737488355328))
      (L (l0 ++ [UInt8.ofNat (IntKind.u8.wrap (shrI IntKind.i64 n 24)).toNat, UInt8.ofNat (IntKind.u8.wrap (shrI IntKind.i64 n 16)).toNat, UInt8.ofNat (IntKind.u8.wrap (shrI IntKind.i64 n 8)).toNat, UInt8.ofNat (IntKind.u8.wrap n).toNat])) none)
    (br (decide ((l0.length + [UInt8.ofNat (IntKind.u8.wrap n).toNat].length) * 1 ≤ 140737488355328)) (L (l0 ++ [UInt8.ofNat (IntKind.u8.wrap n).toNat])) none))
theorem stE_eq (f n : Int) (l0 : List UInt8) (L : List UInt8 → Option R) (h : l0.length ≤ 1000000) : stE f n l0 L = L (l0 ++ encO f n) := by
  unfold stE encO
  simp only [br_dec, wu8, shr8, shr16, shr24, byteI_def]
  by_cases c0 : f = 0
  · rw [if_pos c0, if_pos c0, List.append_nil]
  rw [if_neg c0, if_neg c0]
  by_cases c1 : f = 1
  · rw [if_pos c1, if_pos c1, if_pos (by simp; omega)]
  · rw [if_neg c1, if_neg c1, if_pos (by simp; omega)]
theorem encO_le (f n : Int) : (encO f n).length ≤ 4 := by
  rw [encO_len]; unfold wid
  split
  · omega
  · split <;> omega
theorem cEnc_in (hN : 10 < N) (vs1 : List V) (n2 n3 f g h m1 m2 m3 m4 a b c : Int) (l0 : List UInt8) (K0 : List UInt8 → Option R) (hl : l0.length ≤ 900000) :
    S_cEncode_13 N vs1 n2 n3 f g h m1 m2 m3 m4 a b c N l0 0 K0 = K0 (l0 ++ (encO f a ++ (encO g b ++ encO h c))) := by
  obtain ⟨t, ht⟩ : ∃ t, N = t + 4 := ⟨N - 4, by omega⟩
  have e3 : ∀ u l, S_cEncode_13 N vs1 n2 n3 f g h m1 m2 m3 m4 a b c (u + 1) l 3 K0 = K0 l := fun u l => id rfl
  have e2 : ∀ u l, S_cEncode_13 N vs1 n2 n3 f g h m1 m2 m3 m4 a b c (u + 1) l 2 K0 = stE h c l fun l => S_cEncode_13 N vs1 n2 n3 f g h m1 m2 m3 m4 a b c u l 3 K0 := fun u l => id rfl
  have e1 : ∀ u l, S_cEncode_13 N vs1 n2 n3 f g h m1 m2 m3 m4 a b c (u + 1) l 1 K0 = stE g b l fun l => S_cEncode_13 N vs1 n2 n3 f g h m1 m2 m3 m4 a b c u l 2 K0 := fun u l => id rfl
  have e0 : ∀ u l, S_cEncode_13 N vs1 n2 n3 f g h m1 m2 m3 m4 a b c (u + 1) l 0 K0 = stE f a l fun l => S_cEncode_13 N vs1 n2 n3 f g h m1 m2 m3 m4 a b c u l 1 K0 := fun u l => id rfl
  have hf := encO_le f a
  have hg := encO_le g b
  have key : ∀ u, S_cEncode_13 N vs1 n2 n3 f g h m1 m2 m3 m4 a b c (u + 4) l0 0 K0 = K0 (l0 ++ (encO f a ++ (encO g b ++ encO h c))) := by
    intro u
    rw [e0, stE_eq _ _ _ _ (by omega), e1, stE_eq _ _ _ _ (by simp; omega), e2, stE_eq _ _ _ _ (by simp; omega), e3]
    simp only [List.append_assoc]
  have := key t
  rw [← ht] at this
  exact this
theorem encI_le (i : In) : (encI i).length ≤ 13 := by
  have h1 := encO_le (fA i.op) i.a
  have h2 := encO_le (fB i.op) i.b
  have h3 := encO_le (fC i.op) i.c
  unfold encI; simp; omega
theorem cEnc_loop (hN : 10 < N) : ∀ (l : List In) (pre : List V) (t : Nat) (out : List UInt8), l.length < t → pre.length + l.length ≤ 60000 → out.length + 13 * l.length ≤ 800000 →
    S_cEncode_5 N (pre ++ iE l) ((pre ++ iE l).length : Int) t out (pre.length : Int) (fun l0 n1 l2 => some (l0, n1)) (fun l3 => some (l3, 0)) = some (if firstE l = 0 then (out ++ encAll l, (0 : Int)) else ([], firstE l))
  | l, pre, 0, out, ht, _, _ => by omega
  | [], pre, t + 1, out, ht, _, _ => by
    unfold S_cEncode_5 F_cEncode_5
    simp only [iE, br_t, br_f, br_dec, br_not, br_and, br_or, bnd1_mk, bnd2_mk, bnd3_mk, bnd4_mk, bnd5_mk, bnd10_mk, at_zero, at_succ, at_mid, unInt_mk, unBool_mk, unStr_mk, unBytes_mk, unSl_mk, unAgg_mk, unCons_mk, unNil_mk, endV, if_false, firstE, if_true, encAll, List.append_nil]
    simp
  | i :: l, pre, t + 1, out, ht, hl, ho => by
    simp only [List.length_cons] at ht hl ho
    obtain ⟨h1, h2, h3⟩ := stepV pre (iV i) (iE l) (by rw [iE_len]; omega)
    have hb := encI_le i
    have ih := cEnc_loop hN l (pre ++ [iV i]) t (out ++ encI i) (by omega) (by simp; omega) (by simp; omega)
    rw [← midV, ← h3] at ih
    unfold S_cEncode_5 F_cEncode_5
    simp only [iE, br_t, br_f, br_dec, br_not, br_and, br_or, bnd1_mk, bnd2_mk, bnd3_mk, bnd4_mk, bnd5_mk, bnd10_mk, at_zero, at_succ, at_mid, unInt_mk, unBool_mk, unStr_mk, unBytes_mk, unSl_mk, unAgg_mk, unCons_mk, unNil_mk, h1, h2, if_true, Int.toNat_natCast]
    show V.unAgg (iV i) _ = _
    unfold iV
    simp only [br_t, br_f, br_dec, br_not, br_and, br_or, bnd1_mk, bnd2_mk, bnd3_mk, bnd4_mk, bnd5_mk, bnd10_mk, at_zero, at_succ, at_mid, unInt_mk, unBool_mk, unStr_mk, unBytes_mk, unSl_mk, unAgg_mk, unCons_mk, unNil_mk, cCheck_eq N hN i]
    by_cases c : chk i = 0
    · obtain ⟨r0, r1⟩ := chk_range c
      rw [if_pos c, if_pos (by simp; omega), formOf_eq N r0 r1]
      unfold s_operands
      simp only [bnd3_mk]
      rw [cEnc_in N hN _ _ _ _ _ _ _ _ _ _ _ _ _ _ _ (by simp; omega)]
      have e : out ++ [UInt8.ofNat (IntKind.u8.wrap i.op).toNat] ++ (encO (fA i.op) i.a ++ (encO (fB i.op) i.b ++ encO (fC i.op) i.c)) = out ++ encI i := by
        rw [wu8, byteI_def]; unfold encI; simp
      rw [e]
      unfold iV at ih
      rw [ih]
      simp only [firstE, c, if_true, encAll, List.append_assoc]
    · rw [if_neg c]
      simp only [firstE, c, if_false]
theorem cEncode_eq (hN : 10 < N) (l : List In) (hl : l.length < N) (h2 : l.length ≤ 50000) : s_cEncode N (iE l) = some (encL l) := by
  unfold s_cEncode encL
  rw [br_dec, iE_len]
  by_cases c : 256 < l.length
  · rw [if_pos (by omega), if_pos c]
  rw [if_neg (by omega), if_neg c]
  have := cEnc_loop N hN l [] N [] hl (by simpa using by omega) (by simpa using by omega)
  rw [List.nil_append, iE_len] at this
  rw [show ((([] : List V).length : Nat) : Int) = 0 by rfl] at this
  rw [this]
  simp
/-! The reference -/
end
end Go.Proofs.YtjpmogajlnkihaaDoor.En

/- Instructions decoded: the program and the reference. -/
namespace Go.Proofs.YtjpmogajlnkihaaDoor.En
open Go
set_option linter.unusedVariables false
section
variable (N : Nat) {R : Type}
def decV (p : List In × Int) : List V × Int := (iE p.1, p.2)
theorem iV_def (i : In) : V.agg [V.int IntKind.i64 i.op, V.int IntKind.i64 i.a, V.int IntKind.i64 i.b, V.int IntKind.i64 i.c] = iV i := id rfl
theorem iE_snoc (l : List In) (i : In) : iE l ++ [iV i] = iE (l ++ [i]) := by rw [iE_append]; rfl
/-! The reference -/
end
end Go.Proofs.YtjpmogajlnkihaaDoor.En

/- Instructions as text: the program and the reference. -/
namespace Go.Proofs.YtjpmogajlnkihaaDoor.En
open Go
set_option linter.unusedVariables false
theorem wordT_len (f n : Int) : (wordT f n).length ≤ 21 := by
  unfold wordT
  split
  · decide
  · split
    · have h : ∀ k, (kindsL.getD k []).length ≤ 21 := by
        intro k
        match k with
        | 0 => decide
        | 1 => decide
        | 2 => decide
        | k + 3 => simp [kindsL]
      exact h _
    · exact itoaF_len n
theorem nameT_len (op : Int) : (nameT op).length ≤ 20 := namesL_len _
theorem partT_len (f n : Int) : (partT f n).length ≤ 22 := by
  have := wordT_len f n
  unfold partT
  split <;> simp <;> omega
theorem lineT_len (i : In) : (lineT i).length ≤ 86 := by
  have := nameT_len i.op
  have := partT_len (fA i.op) i.a
  have := partT_len (fB i.op) i.b
  have := partT_len (fC i.op) i.c
  unfold lineT; simp; omega
section
variable (N : Nat) {R : Type}
theorem kind_words (n : Int) (h : n = 2 ∨ n = 3 ∨ n = 4) : s_word N 7 n = some (wordT 7 n) ∧ s_rword N 7 n = some (wordT 7 n) := by
  rcases h with rfl | rfl | rfl <;> exact ⟨rfl, rfl⟩
theorem word_eq {f n p : Int} (h : oe f n p = 0) : s_word N f n = some (wordT f n) := by
  by_cases c7 : f = 7
  · subst c7
    have := oe_kind h
    exact (kind_words N n (by omega)).1
  unfold s_word wordT s_Itoa
  simp only [br_dec, bnd1_mk, c7, if_false]
  by_cases c5 : f = 5
  · by_cases cn : n = 255
    · rw [if_pos c5, if_pos cn, if_pos ⟨c5, cn⟩]; rfl
    · rw [if_pos c5, if_neg cn, if_neg (fun q => cn q.2)]
  · rw [if_neg c5, if_neg (fun q => c5 q.1)]
theorem write_eq (x y : List UInt8) (h : y.length + x.length ≤ 1000000) : s_WriteString N x y = some ((x.length : Int), y ++ x) := by
  unfold s_WriteString C_WriteString s_copyCheck
  rw [bnd1_mk, br_dec, if_pos (by omega)]
noncomputable def stT (f n : Int) (l : List UInt8) (L : List UInt8 → Option R) : Option R :=
  br (decide (f = 0)) (L l) (bnd1 (s_joined N f) fun b => br b
    (bnd1 (s_word N f n) fun l1 => br (decide (1 + l1.length ≤ 9223372036854775807)) (bnd2 (s_WriteString N (46 :: [].append l1) l) fun _ l3 => L l3) none)
    (bnd1 (s_word N f n) fun l1 => br (decide (1 + l1.length ≤ 9223372036854775807)) (bnd2 (s_WriteString N (32 :: [].append l1) l) fun _ l3 => L l3) none))
theorem stT_eq {f n p : Int} (h : oe f n p = 0) (l : List UInt8) (L : List UInt8 → Option R) (hl : l.length ≤ 900000) : stT N f n l L = L (l ++ partT f n) := by
  unfold stT partT
  rw [br_dec]
  by_cases c0 : f = 0
  · rw [if_pos c0, if_pos c0, List.append_nil]
  rw [if_neg c0, if_neg c0, word_eq N h]
  have hw := wordT_len f n
  have hj : s_joined N f = some (decide (f = 6 ∨ f = 11)) := by
    unfold s_joined
    rw [br_dec]
    by_cases c6 : f = 6
    · rw [if_pos c6, decide_eq_true (Or.inl c6)]
    · rw [if_neg c6]; congr 1; rw [decide_eq_decide]; omega
  rw [hj, bnd1_mk]
  unfold sepB
  by_cases c : f = 6 ∨ f = 11
  · rw [decide_eq_true c, br_t, bnd1_mk, br_dec, if_pos (by omega), if_pos c]
    show (bnd2 (s_WriteString N (46 :: wordT f n) l) fun _ l3 => L l3) = _
    rw [write_eq N _ _ (by simp <;> omega), bnd2_mk]
  · rw [decide_eq_false c, br_f, bnd1_mk, br_dec, if_pos (by omega), if_neg c]
    show (bnd2 (s_WriteString N (32 :: wordT f n) l) fun _ l3 => L l3) = _
    rw [write_eq N _ _ (by simp <;> omega), bnd2_mk]
theorem cText_in (hN : 10 < N) (vs0 vs1 : List V) (n2 n3 f g h m1 m2 m3 m4 a b c p : Int) (l0 : List UInt8) (K0 : List UInt8 → Option R) (hl : l0.length ≤ 800000) (ha : oe f a p = 0) (hb : oe g b p = 0) (hc : oe h c p = 0) :
    S_cText_12 N vs0 vs1 n2 n3 f g h m1 m2 m3 m4 a b c N 0 l0 K0 = K0 (l0 ++ (partT f a ++ (partT g b ++ partT h c))) := by
  obtain ⟨t, ht⟩ : ∃ t, N = t + 4 := ⟨N - 4, by omega⟩
  have e3 : ∀ u l, S_cText_12 N vs0 vs1 n2 n3 f g h m1 m2 m3 m4 a b c (u + 1) 3 l K0 = K0 l := fun u l => id rfl
  have e2 : ∀ u l, S_cText_12 N vs0 vs1 n2 n3 f g h m1 m2 m3 m4 a b c (u + 1) 2 l K0 = stT N h c l fun l => S_cText_12 N vs0 vs1 n2 n3 f g h m1 m2 m3 m4 a b c u 3 l K0 := fun u l => id rfl
  have e1 : ∀ u l, S_cText_12 N vs0 vs1 n2 n3 f g h m1 m2 m3 m4 a b c (u + 1) 1 l K0 = stT N g b l fun l => S_cText_12 N vs0 vs1 n2 n3 f g h m1 m2 m3 m4 a b c u 2 l K0 := fun u l => id rfl
  have e0 : ∀ u l, S_cText_12 N vs0 vs1 n2 n3 f g h m1 m2 m3 m4 a b c (u + 1) 0 l K0 = stT N f a l fun l => S_cText_12 N vs0 vs1 n2 n3 f g h m1 m2 m3 m4 a b c u 1 l K0 := fun u l => id rfl
  have hf := partT_len f a
  have hg := partT_len g b
  have key : ∀ u, S_cText_12 N vs0 vs1 n2 n3 f g h m1 m2 m3 m4 a b c (u + 4) 0 l0 K0 = K0 (l0 ++ (partT f a ++ (partT g b ++ partT h c))) := by
    intro u
    rw [e0, stT_eq N ha _ _ (by omega), e1, stT_eq N hb _ _ (by simp <;> omega), e2, stT_eq N hc _ _ (by simp <;> omega), e3]
    simp only [List.append_assoc]
  have := key t
  rw [← ht] at this
  exact this
theorem names_eq : s_names N = some (namesL.map V.str) := by
  unfold s_names s_Fields
  rw [namesL_eq]
  kernel_rfl
theorem names_at {op : Int} (h0 : 0 ≤ op) (h1 : op < 54) (K : V → Option R) : at? (namesL.map V.str) op.toNat K = K (.str (nameT op)) := by
  have hk : op.toNat < namesL.length := by show op.toNat < 54; omega
  refine at_of ?_ K
  rw [List.getElem?_map, List.getElem?_eq_getElem hk]
  simp [nameT, List.getD, hk]
theorem cText_loop (hN : 10 < N) : ∀ (l : List In) (pre : List V) (t : Nat) (out : List UInt8), l.length < t → pre.length + l.length ≤ 60000 → out.length + 100 * l.length ≤ 700000 → firstE l = 0 →
    S_cText_7 N (namesL.map V.str) (pre ++ iE l) ((pre ++ iE l).length : Int) t (pre.length : Int) out (fun l3 => some l3) = some (out ++ textAll l)
  | l, pre, 0, out, ht, _, _, _ => by omega
  | [], pre, t + 1, out, ht, _, _, _ => by
    unfold S_cText_7 F_cText_7
    rw [br_dec, if_neg (by simp [iE])]
    simp [textAll]
  | i :: l, pre, t + 1, out, ht, hl, ho, hf => by
    simp only [List.length_cons] at ht hl ho
    obtain ⟨f1, f2⟩ := firstE_cons hf
    obtain ⟨r0, r1⟩ := chk_range f1
    obtain ⟨ha, hb, hc⟩ := chk_parts f1
    obtain ⟨h1, h2, h3⟩ := stepV pre (iV i) (iE l) (by rw [iE_len]; omega)
    have hll := lineT_len i
    have hnl := nameT_len i.op
    have ih := cText_loop hN l (pre ++ [iV i]) t (out ++ (lineT i ++ [10])) (by omega) (by simp <;> omega) (by simp <;> omega) f2
    rw [← midV, ← h3] at ih
    unfold S_cText_7 F_cText_7
    simp only [iE, br_t, br_f, br_dec, br_not, br_and, br_or, bnd1_mk, bnd2_mk, bnd3_mk, bnd4_mk, bnd5_mk, bnd10_mk, at_zero, at_succ, at_mid, unInt_mk, unBool_mk, unStr_mk, unBytes_mk, unSl_mk, unAgg_mk, unCons_mk, unNil_mk, h1, h2, if_true, Int.toNat_natCast]
    show V.unAgg (iV i) _ = _
    unfold iV
    simp only [br_t, br_f, br_dec, br_not, br_and, br_or, bnd1_mk, bnd2_mk, bnd3_mk, bnd4_mk, bnd5_mk, bnd10_mk, at_zero, at_succ, at_mid, unInt_mk, unBool_mk, unStr_mk, unBytes_mk, unSl_mk, unAgg_mk, unCons_mk, unNil_mk]
    rw [if_pos r0, if_pos (by simp [namesL]; omega), names_at r0 r1, unStr_mk, write_eq N _ _ (by omega), bnd2_mk, formOf_eq N r0 r1]
    unfold s_operands
    simp only [bnd3_mk]
    rw [cText_in N hN _ _ _ _ _ _ _ _ _ _ _ _ _ _ _ _ _ (by simp <;> omega) ha hb hc]
    have e : out ++ nameT i.op ++ (partT (fA i.op) i.a ++ (partT (fB i.op) i.b ++ partT (fC i.op) i.c)) = out ++ lineT i := by unfold lineT; simp
    rw [e, write_eq N _ _ (by simp <;> omega), bnd2_mk, List.append_assoc]
    unfold iV at ih
    rw [ih]
    simp [textAll]
theorem cText_eq (hN : 10 < N) (l : List In) (hl : l.length < N) (h2 : l.length ≤ 50000) : s_cText N (iE l) = some (textL l) := by
  unfold s_cText textL
  rw [cEncode_eq N hN l hl h2]
  rcases he : encL l with ⟨x, e⟩
  simp only [bnd2_mk, br_not, br_dec]
  by_cases c : e = 0
  · rw [if_pos c, if_pos c, names_eq, bnd1_mk]
    have hf : l.length ≤ 256 ∧ firstE l = 0 := by
      unfold encL at he
      split at he
      · injection he with _ he; omega
      · split at he
        · exact ⟨by omega, by assumption⟩
        · rename_i h; injection he with _ he; omega
    have := cText_loop N hN l [] N [] hl (by simpa using by omega) (by simpa using by omega) hf.2
    rw [List.nil_append, List.nil_append, iE_len] at this
    rw [show ((([] : List V).length : Nat) : Int) = 0 by rfl] at this
    rw [iE_len]
    exact this
  · rw [if_neg c, if_neg c]
/-! The reference -/
end
end Go.Proofs.YtjpmogajlnkihaaDoor.En

/- Texts read as instructions: the program. -/
namespace Go.Proofs.YtjpmogajlnkihaaDoor.En
open Go
set_option linter.unusedVariables false
def sL (l : List (List UInt8)) : List V := l.map V.str
theorem sL_cons (w : List UInt8) (l : List (List UInt8)) : sL (w :: l) = V.str w :: sL l := id rfl
theorem sL_len (l : List (List UInt8)) : (sL l).length = l.length := by simp [sL]
def idxI (w : List UInt8) (l : List (List UInt8)) : Int := match idxN w l with | some k => (k : Int) | none => -1
section
variable (N : Nat) {R : Type}
theorem index_loop (w : List UInt8) (K0 : Int → Option R) (K1 : Option R) : ∀ (l : List (List UInt8)) (pre : List V) (t : Nat), l.length < t → pre.length + l.length ≤ 1000000 →
    S_IndexS_2 N (pre ++ sL l) w ((pre ++ sL l).length : Int) t (pre.length : Int) K0 K1 = match idxN w l with | some k => K0 ((pre.length + k : Nat) : Int) | none => K1
  | l, pre, 0, ht, _ => by omega
  | [], pre, t + 1, ht, _ => by
    unfold S_IndexS_2 F_IndexS_2
    rw [br_dec, if_neg (by simp [sL])]; rfl
  | x :: l, pre, t + 1, ht, hl => by
    simp only [List.length_cons] at ht hl
    obtain ⟨h1, h2, h3⟩ := stepV pre (.str x) (sL l) (by rw [sL_len]; omega)
    have ih := index_loop w K0 K1 l (pre ++ [.str x]) t (by omega) (by simp <;> omega)
    rw [← midV, ← h3] at ih
    unfold S_IndexS_2 F_IndexS_2 idxN
    simp only [sL_cons, br_t, br_f, br_dec, br_not, br_and, br_or, bnd1_mk, bnd2_mk, bnd3_mk, bnd4_mk, bnd5_mk, bnd10_mk, at_zero, at_succ, at_mid, unInt_mk, unBool_mk, unStr_mk, unBytes_mk, unSl_mk, unAgg_mk, unCons_mk, unNil_mk, h1, h2, if_true, Int.toNat_natCast]
    by_cases c : x = w
    · subst c
      rw [if_pos rfl, if_pos rfl]; rfl
    · rw [if_neg (fun e => c e.symm), if_neg c, ih]
      cases idxN w l with
      | none => rfl
      | some k => simp only [Option.map_some]; congr 2; simp; omega
theorem index_eq (l : List (List UInt8)) (w : List UInt8) (h : l.length < N) (h2 : l.length ≤ 900000) : s_IndexS N (sL l) w = some (idxI w l) := by
  have := index_loop N w (fun n0 => some n0) (some (-1)) l [] N h (by simpa using by omega)
  rw [List.nil_append, show ((([] : List V).length : Nat) : Int) = 0 by rfl] at this
  unfold s_IndexS
  rw [this]
  unfold idxI
  cases idxN w l with
  | none => rfl
  | some k => simp
theorem kinds_sL : s_kinds N = some (sL kindsL) := id rfl
theorem idx_kinds (s : List UInt8) : idxI s kindsL = if s = [98, 121, 116, 101, 115] then 0 else if s = [105, 110, 116, 115] then 1 else if s = [114, 101, 102, 115] then 2 else -1 := by
  by_cases e1 : s = [98, 121, 116, 101, 115]
  · subst e1; rfl
  by_cases e2 : s = [105, 110, 116, 115]
  · subst e2; rfl
  by_cases e3 : s = [114, 101, 102, 115]
  · subst e3; rfl
  rw [if_neg e1, if_neg e2, if_neg e3]
  have h : idxN s kindsL = none := by
    unfold kindsL idxN
    rw [if_neg (fun e => e1 e.symm)]
    unfold idxN
    rw [if_neg (fun e => e2 e.symm)]
    unfold idxN
    rw [if_neg (fun e => e3 e.symm)]
    rfl
  unfold idxI
  rw [h]
theorem value_eq (hN : 10 < N) (f : Int) (s : List UInt8) (h : s.length ≤ 1000000) : s_value N f s = some (valW f s) := by
  unfold s_value valW
  rw [br_dec]
  by_cases c7 : f = 7
  · rw [if_pos c7, if_pos c7, kinds_sL, bnd1_mk, index_eq N kindsL s (by show 3 < N; omega) (by decide), bnd1_mk]
    rw [idx_kinds]
    by_cases e1 : s = [98, 121, 116, 101, 115]
    · rw [if_pos e1, if_pos e1]; rfl
    rw [if_neg e1, if_neg e1]
    by_cases e2 : s = [105, 110, 116, 115]
    · rw [if_pos e2, if_pos e2]; rfl
    rw [if_neg e2, if_neg e2]
    by_cases e3 : s = [114, 101, 102, 115]
    · rw [if_pos e3, if_pos e3]; rfl
    rw [if_neg e3, if_neg e3]
    rfl
  rw [if_neg c7, if_neg c7]
  have hn : s_number N s = some (numF s) := by
    unfold s_number
    rw [show Nat.ble s.length 1000000 = true by simpa using h]; rfl
  rw [hn]
  rcases hq : numF s with ⟨n, a, b⟩
  simp only [bnd3_mk, br_dec]
  show (if f = 5 then (if s = sysW then some (255, true, true) else _) else _) = _
  by_cases c5 : f = 5
  · by_cases cs : s = sysW
    · rw [if_pos c5, if_pos cs, if_pos ⟨c5, cs⟩]
    · rw [if_pos c5, if_neg cs, if_pos c5, if_neg (show ¬ (f = 5 ∧ s = sysW) from fun q => cs q.2)]
      by_cases cn : n = 255
      · rw [if_pos cn, if_pos ⟨c5, cn⟩]
      · rw [if_neg cn, if_neg (fun q => cn q.2)]
  · rw [if_neg c5, if_neg c5, if_neg (fun q => c5 q.1), if_neg (fun q => c5 q.1)]
theorem cut_eq (c : UInt8) (s : List UInt8) (h : s.length ≤ 1000000) : s_Cut N s [c] = some (cut1 c s) := by
  unfold s_Cut
  simp only
  rw [show Nat.ble s.length 1000000 = true by simpa using h]; rfl
theorem splitS_eq (c : UInt8) (s : List UInt8) (h : s.length ≤ 1000000) : s_Split N s [c] = some (sL (split1 c s)) := by
  unfold s_Split
  simp only
  rw [show Nat.ble s.length 1000000 = true by simpa using h]; rfl
/-- What is left when a word is taken. -/
noncomputable def stP (vs0 vs1 : List V) (P : List V → List V → Option R) : Option R :=
  br (decide (0 < (vs0.length : Int))) (at? vs0 0 fun x => x.unStr fun l => br (decide ((vs1.length + [V.str l].length) * 16 ≤ 140737488355328)) (br (decide (1 ≤ (vs0.length : Int))) (P (List.drop 1 vs0) (vs1 ++ [V.str l])) none) none) none
noncomputable def stJ (vs0 vs1 : List V) (F : Option R) (J : List V → List V → Option R) : Option R :=
  br (decide (0 < (vs0.length : Int))) (at? vs0 0 fun x => x.unStr fun l => bnd3 (s_Cut N l ([46] : List UInt8)) fun a c d => br (!d) F
    (br (decide ((vs1.length + [V.str a, V.str c].length) * 16 ≤ 140737488355328)) (br (decide (1 ≤ (vs0.length : Int))) (J (List.drop 1 vs0) (vs1 ++ [V.str a, V.str c])) none) none)) none
noncomputable def stW (f g : Int) (vs0 vs1 : List V) (F E : Option R) (J P : List V → List V → Option R) : Option R :=
  br (!decide (f = 0)) (br (decide ((vs0.length : Int) = 0)) F (bnd1 (s_joined N g) fun b => br b (stJ N vs0 vs1 F J) (stP vs0 vs1 P))) E
noncomputable def stL (f : Int) (vs0 vs1 : List V) (F E : Option R) (P : List V → List V → Option R) : Option R :=
  br (!decide (f = 0)) (br (decide ((vs0.length : Int) = 0)) F (stP vs0 vs1 P)) E
theorem stP_cons (w : List UInt8) (ws : List (List UInt8)) (vs1 : List V) (P : List V → List V → Option R) (h : vs1.length ≤ 1000000) (h2 : ws.length ≤ 1000000) : stP (sL (w :: ws)) vs1 P = P (sL ws) (vs1 ++ [V.str w]) := by
  unfold stP
  rw [sL_cons]
  simp only [br_t, br_f, br_dec, br_not, br_and, br_or, bnd1_mk, bnd2_mk, bnd3_mk, bnd4_mk, bnd5_mk, bnd10_mk, at_zero, at_succ, at_mid, unInt_mk, unBool_mk, unStr_mk, unBytes_mk, unSl_mk, unAgg_mk, unCons_mk, unNil_mk]
  have e1 : (0 : Int) < ((V.str w :: sL ws).length : Int) := by simp <;> omega
  have e2 : (1 : Int) ≤ ((V.str w :: sL ws).length : Int) := by simp <;> omega
  rw [if_pos e1, if_pos (by simp <;> omega), if_pos e2]
  rfl
theorem stJ_cons (w : List UInt8) (ws : List (List UInt8)) (vs1 : List V) (F : Option R) (J : List V → List V → Option R) (h : vs1.length ≤ 1000000) (hw : w.length ≤ 1000000) :
    stJ N (sL (w :: ws)) vs1 F J = match cut1 46 w with | (a, b, true) => J (sL ws) (vs1 ++ [V.str a, V.str b]) | (_, _, false) => F := by
  unfold stJ
  rw [sL_cons]
  have e1 : (0 : Int) < ((V.str w :: sL ws).length : Int) := by simp <;> omega
  have e2 : (1 : Int) ≤ ((V.str w :: sL ws).length : Int) := by simp <;> omega
  rw [br_dec, if_pos e1, at_zero, unStr_mk, cut_eq N 46 w hw]
  rcases cut1 46 w with ⟨a, b, d⟩
  cases d with
  | false => rfl
  | true =>
    simp only [bnd3_mk, br_not, br_t, br_dec]
    rw [if_pos (by simp <;> omega), if_pos e2]
    rfl
theorem joined_eq (f : Int) : s_joined N f = some (decide (f = 6 ∨ f = 11)) := by
  unfold s_joined
  rw [br_dec]
  by_cases c6 : f = 6
  · rw [if_pos c6, decide_eq_true (Or.inl c6)]
  · rw [if_neg c6]; congr 1; rw [decide_eq_decide]; omega
theorem words_jn {x y : Int} (z : Int) {w : List UInt8} (r : List (List UInt8)) {a b : List UInt8} (hx : x ≠ 0) (hy : y = 6 ∨ y = 11) (hc : cut1 46 w = (a, b, false)) : wordsW x y z (w :: r) = none := by
  unfold wordsW
  rw [if_neg hx, if_pos hy]
  simp only [hc]
/-- The words that a line's operands are, out of the words of the line. -/
def wordsR (o : Option (List (List UInt8))) (r : Option (List V × Bool)) : Prop := match o with | some l => r = some (sL l, true) | none => ∃ vs, r = some (vs, false)
theorem words_eq (hN : 10 < N) {x y z : Int} (hf : Fm x y z) (ws : List (List UInt8)) (hl : ws.length ≤ 1000000) (hb : ∀ w ∈ ws, w.length ≤ 1000000) : wordsR (wordsW x y z ws) (s_words N x y z (sL ws)) := by
  obtain ⟨t, ht⟩ : ∃ t, N = t + 4 := ⟨N - 4, by omega⟩
  have e3 : ∀ u vs0 vs1 (K0 : List V → List V → Bool → List V → Option (List V × Bool)) (K1 : List V → List V → Option (List V × Bool)), S_words_3 N x y z (u + 1) vs0 vs1 3 K0 K1 = K1 vs0 vs1 := fun u vs0 vs1 K0 K1 => id rfl
  have e2 : ∀ u vs0 vs1 (K0 : List V → List V → Bool → List V → Option (List V × Bool)) (K1 : List V → List V → Option (List V × Bool)), S_words_3 N x y z (u + 1) vs0 vs1 2 K0 K1 = stL z vs0 vs1 (K0 vs0 [] false vs1) (K1 vs0 vs1) fun a b => S_words_3 N x y z u a b 3 K0 K1 := fun u vs0 vs1 K0 K1 => id rfl
  have e1 : ∀ u vs0 vs1 (K0 : List V → List V → Bool → List V → Option (List V × Bool)) (K1 : List V → List V → Option (List V × Bool)), S_words_3 N x y z (u + 1) vs0 vs1 1 K0 K1 = stW N y z vs0 vs1 (K0 vs0 [] false vs1) (K1 vs0 vs1) (fun a b => S_words_3 N x y z u a b 3 K0 K1) fun a b => S_words_3 N x y z u a b 2 K0 K1 := fun u vs0 vs1 K0 K1 => id rfl
  have e0 : ∀ u vs0 vs1 (K0 : List V → List V → Bool → List V → Option (List V × Bool)) (K1 : List V → List V → Option (List V × Bool)), S_words_3 N x y z (u + 1) vs0 vs1 0 K0 K1 = stW N x y vs0 vs1 (K0 vs0 [] false vs1) (K1 vs0 vs1) (fun a b => S_words_3 N x y z u a b 2 K0 K1) fun a b => S_words_3 N x y z u a b 1 K0 K1 := fun u vs0 vs1 K0 K1 => id rfl
  have key : ∀ u, wordsR (wordsW x y z ws) (S_words_3 N x y z (u + 4) (sL ws) [] 0 (fun l0 l1 b2 l3 => some (l1, b2)) fun l4 l5 => some (l5, decide ((l4.length : Int) = 0))) := by
    intro u
    rw [e0]
    unfold stW
    rw [br_not, br_dec]
    by_cases x0 : x = 0
    · rw [if_pos x0]
      unfold wordsW
      rw [if_pos x0]
      cases ws with
      | nil => exact rfl
      | cons w ws => exact ⟨_, rfl⟩
    rw [if_neg x0]
    cases ws with
    | nil =>
      have : ∃ vs, br (decide (((sL []).length : Int) = 0)) (some (([] : List V), false)) (bnd1 (s_joined N y) fun b => br b (stJ N (sL []) [] (some (([] : List V), false)) fun a b => S_words_3 N x y z (u + 2 + 1) a b 2 (fun l0 l1 b2 l3 => some (l1, b2)) fun l4 l5 => some (l5, decide ((l4.length : Int) = 0))) (stP (sL []) [] fun a b => S_words_3 N x y z (u + 2 + 1) a b 1 (fun l0 l1 b2 l3 => some (l1, b2)) fun l4 l5 => some (l5, decide ((l4.length : Int) = 0)))) = some (vs, false) := ⟨[], rfl⟩
      have hw : wordsW x y z [] = none := by
        unfold wordsW
        rw [if_neg x0]
        split
        · rfl
        · split <;> rfl
      rw [hw]
      exact this
    | cons w ws =>
      have hb1 := hb w (by simp)
      simp only [List.length_cons] at hl
      have en : ¬ (((sL (w :: ws)).length : Int) = 0) := by rw [sL_len]; simp <;> omega
      rw [br_dec, if_neg en, joined_eq, bnd1_mk, br_dec]
      by_cases cj : y = 6 ∨ y = 11
      · rw [if_pos cj, stJ_cons N w ws [] _ _ (by simp) hb1]
        rcases hc : cut1 46 w with ⟨a, b, d⟩
        cases d with
        | false =>
          rw [words_jn z ws x0 cj hc]
          exact ⟨_, rfl⟩
        | true =>
          rw [words_j z ws x0 cj hc]
          simp only
          rw [e2]
          unfold stL
          rw [br_not, br_dec]
          by_cases z0 : z = 0
          · rw [if_pos z0, if_pos z0]
            cases ws with
            | nil => exact rfl
            | cons v ws => exact ⟨_, rfl⟩
          · rw [if_neg z0, if_neg z0]
            cases ws with
            | nil => exact ⟨_, rfl⟩
            | cons v ws =>
              have en : ¬ (((sL (v :: ws)).length : Int) = 0) := by rw [sL_len]; simp <;> omega
              simp only [List.length_cons] at hl
              rw [br_dec, if_neg en, stP_cons v ws _ _ (by simp) (by omega), e3]
              cases ws with
              | nil => exact rfl
              | cons v ws => exact ⟨_, rfl⟩
      · rw [if_neg cj, stP_cons w ws [] _ (by simp) (by omega), e1]
        unfold wordsW
        rw [if_neg x0, if_neg cj]
        unfold stW
        rw [br_not, br_dec]
        by_cases y0 : y = 0
        · rw [if_pos y0, if_pos y0]
          cases ws with
          | nil => exact rfl
          | cons v ws => exact ⟨_, rfl⟩
        · have hz : z = 0 := by
            rcases hf with ⟨h, _⟩ | ⟨_, _, h⟩ | ⟨_, h, _⟩ | ⟨_, h, _⟩
            · exact absurd h y0
            · exact h
            · exact absurd (Or.inl h) cj
            · exact absurd (Or.inr h) cj
          rw [if_neg y0, if_neg y0]
          cases ws with
          | nil => exact ⟨_, rfl⟩
          | cons v ws =>
            have en : ¬ (((sL (v :: ws)).length : Int) = 0) := by rw [sL_len]; simp <;> omega
            simp only [List.length_cons] at hl
            rw [br_dec, if_neg en, joined_eq, bnd1_mk, br_dec, if_neg (by omega), stP_cons v ws _ _ (by simp) (by omega), e2]
            unfold stL
            rw [br_not, br_dec, if_pos hz]
            cases ws with
            | nil => exact rfl
            | cons v ws => exact ⟨_, rfl⟩
  have := key t
  rw [← ht] at this
  exact this
theorem words_len {x y z : Int} {ws l : List (List UInt8)} (h : wordsW x y z ws = some l) (hb : ∀ w ∈ ws, w.length ≤ 1000000) : l.length ≤ 3 ∧ ∀ w ∈ l, w.length ≤ 1000000 := by
  unfold wordsW at h
  split at h
  · split at h
    · injection h with h; subst h; simp
    · cases h
  · split at h
    · split at h
      · rename_i w r
        have hb1 := hb w (by simp)
        have hc := cut1_len 46 w
        split at h
        · rename_i a b e
          rw [e] at hc
          simp only at hc
          split at h
          · split at h
            · injection h with h; subst h
              refine ⟨by simp, fun v hv => ?_⟩
              simp at hv
              rcases hv with rfl | rfl <;> omega
            · cases h
          · split at h
            · rename_i c
              injection h with h; subst h
              refine ⟨by simp, fun v hv => ?_⟩
              simp at hv
              rcases hv with rfl | rfl | rfl
              · omega
              · omega
              · exact hb _ (by simp)
            · cases h
        · cases h
      · cases h
    · split at h
      · split at h
        · injection h with h; subst h
          exact ⟨by simp, hb⟩
        · cases h
      · split at h
        · injection h with h; subst h
          exact ⟨by simp, hb⟩
        · cases h
noncomputable def stV (f : Int) (w : List UInt8) (b : Bool) (F : Option R) (L : Bool → Int → Option R) : Option R :=
  bnd3 (s_value N f w) fun n b3 b4 => br (!b3) F (br b (L b4 n) (L false n))
theorem stV_eq (hN : 10 < N) (f : Int) (w : List UInt8) (b : Bool) (F : Option R) (L : Bool → Int → Option R) (h : w.length ≤ 1000000) : stV N f w b F L = if (valW f w).2.1 = true then L (b && (valW f w).2.2) (valW f w).1 else F := by
  unfold stV
  rw [value_eq N hN f w h]
  rcases valW f w with ⟨n, c, d⟩
  cases c <;> cases b <;> rfl
def linT (p : In × Int) : Int × Int × Int × Int × Int := (p.1.op, p.1.a, p.1.b, p.1.c, p.2)
theorem lineV_eq (hN : 10 < N) (k : Int) (l : List (List UInt8)) (h3 : l.length ≤ 3) (hb : ∀ w ∈ l, w.length ≤ 1000000) :
    S_line_12 N k (sL l) ((sL l).length : Int) 0 0 0 0 (fA k) (fB k) (fC k) N true 0 0 0 0 (fun n10 b11 n12 n13 n14 n15 n16 n17 n18 => some (n12, n13, n14, n15, n10)) (fun b19 n20 n21 n22 =>
      br (!b19) (some (0, 0, 0, 0, 2)) (bnd1 (s_cCheck N k n20 n21 n22) fun n23 => some (k, n20, n21, n22, n23))) = some (linT (lineV k l)) := by
  obtain ⟨t, ht⟩ : ∃ t, N = t + 4 := ⟨N - 4, by omega⟩
  generalize hx : fA k = x
  generalize hy : fB k = y
  generalize hz : fC k = z
  generalize hK0 : (fun n10 b11 n12 n13 n14 n15 n16 n17 n18 => some (n12, n13, n14, n15, n10) : Int → Bool → Int → Int → Int → Int → Int → Int → Int → Option (Int × Int × Int × Int × Int)) = K0
  generalize hK1 : (fun b19 n20 n21 n22 => br (!b19) (some (0, 0, 0, 0, 2)) (bnd1 (s_cCheck N k n20 n21 n22) fun n23 => some (k, n20, n21, n22, n23)) : Bool → Int → Int → Int → Option (Int × Int × Int × Int × Int)) = K1
  have k0 : ∀ b p q s, K0 30 b 0 0 0 0 p q s = some (linT (zI, 30)) := by intro b p q s; rw [← hK0]; rfl
  have k1 : ∀ b p q s, K1 b p q s = some (linT (if b = true then (⟨k, p, q, s⟩, chk ⟨k, p, q, s⟩) else (zI, 2))) := by
    intro b p q s
    rw [← hK1]
    simp only
    cases b with
    | false => rfl
    | true =>
      rw [show s_cCheck N k p q s = _ from cCheck_eq N hN ⟨k, p, q, s⟩]
      rfl
  unfold lineV
  rw [hx, hy, hz]
  have key : ∀ u, S_line_12 N k (sL l) ((sL l).length : Int) 0 0 0 0 x y z (u + 4) true 0 0 0 0 K0 K1 = some (linT (match valsW [x, y, z] l with
      | none => (zI, 30)
      | some (l, fits) => if fits = true then (⟨k, l.getD 0 0, l.getD 1 0, l.getD 2 0⟩, chk ⟨k, l.getD 0 0, l.getD 1 0, l.getD 2 0⟩) else (zI, 2))) := by
    intro u
    match l, h3 with
    | [], _ =>
      show K1 true 0 0 0 = _
      rw [k1]; rfl
    | [a], _ =>
      have e0 : S_line_12 N k (sL [a]) ((sL [a]).length : Int) 0 0 0 0 x y z (u + 4) true 0 0 0 0 K0 K1 = stV N x a true (K0 30 true 0 0 0 0 0 0 0) fun b n => K1 b n 0 0 := id rfl
      rw [e0, stV_eq N hN _ _ _ _ _ (hb a (by simp)), k0]
      simp only [valsW, k1]
      rcases valW x a with ⟨n, c, d⟩
      cases c <;> cases d <;> rfl
    | [a, b], _ =>
      have e0 : S_line_12 N k (sL [a, b]) ((sL [a, b]).length : Int) 0 0 0 0 x y z (u + 4) true 0 0 0 0 K0 K1 = stV N x a true (K0 30 true 0 0 0 0 0 0 0) fun f n => stV N y b f (K0 30 f 0 0 0 0 n 0 0) fun f m => K1 f n m 0 := id rfl
      rw [e0, stV_eq N hN _ _ _ _ _ (hb a (by simp))]
      simp only [stV_eq N hN _ _ _ _ _ (hb b (by simp)), k0, valsW, k1]
      rcases valW x a with ⟨n, c, d⟩
      rcases valW y b with ⟨n', c', d'⟩
      cases c <;> cases d <;> cases c' <;> cases d' <;> rfl
    | [a, b, e], _ =>
      have e0 : S_line_12 N k (sL [a, b, e]) ((sL [a, b, e]).length : Int) 0 0 0 0 x y z (u + 4) true 0 0 0 0 K0 K1 = stV N x a true (K0 30 true 0 0 0 0 0 0 0) fun f n => stV N y b f (K0 30 f 0 0 0 0 n 0 0) fun f m => stV N z e f (K0 30 f 0 0 0 0 n m 0) fun f o => K1 f n m o := id rfl
      rw [e0, stV_eq N hN _ _ _ _ _ (hb a (by simp))]
      simp only [stV_eq N hN _ _ _ _ _ (hb b (by simp)), stV_eq N hN _ _ _ _ _ (hb e (by simp)), k0, valsW, k1]
      rcases valW x a with ⟨n, c, d⟩
      rcases valW y b with ⟨n', c', d'⟩
      rcases valW z e with ⟨n2, c2, d2⟩
      cases c <;> cases d <;> cases c' <;> cases d' <;> cases c2 <;> cases d2 <;> rfl
  have := key t
  rw [← ht] at this
  exact this
theorem line_eq (hN : 60 < N) (s : List UInt8) (h : s.length ≤ 900000) : s_line N s = some (linT (lineP s)) := by
  unfold s_line lineP
  rw [splitS_eq N 32 s (by omega), bnd1_mk, names_eq, bnd1_mk]
  obtain ⟨q1, q2⟩ := split1_len 32 s
  cases hs : split1 32 s with
  | nil => exact absurd hs (split1_ne 32 s)
  | cons w r =>
    rw [hs] at q1 q2
    simp only [List.length_cons] at q1
    have hb : ∀ v ∈ r, v.length ≤ 1000000 := fun v hv => by have := q2 v (by simp [hv]); omega
    simp only
    have e1 : (0 : Int) < ((sL (w :: r)).length : Int) := by rw [sL_len]; simp <;> omega
    have e2 : (1 : Int) ≤ ((sL (w :: r)).length : Int) := by rw [sL_len]; simp <;> omega
    rw [br_dec, if_pos e1, sL_cons, at_zero, unStr_mk, ← sL_cons]
    rw [show (namesL.map V.str) = sL namesL from rfl, index_eq N namesL w (by show 54 < N; omega) (by decide), bnd1_mk, br_dec]
    unfold idxI
    cases hi : idxN w namesL with
    | none => rfl
    | some k =>
      have k1 : k < 54 := (idx_back w namesL k hi).1
      simp only
      rw [if_neg (by omega), formOf_eq N (by omega) (by omega), bnd3_mk, br_dec, if_pos e2]
      have hw := words_eq N (by omega) (fm_of (op := (k : Int)) (by omega) (by omega)) r (by omega) hb
      have hd : List.drop 1 (sL (w :: r)) = sL r := rfl
      rw [hd]
      unfold lineK
      cases hk : wordsW (fA (k : Int)) (fB (k : Int)) (fC (k : Int)) r with
      | none =>
        rw [hk] at hw
        obtain ⟨vs, hw⟩ := hw
        rw [hw]; rfl
      | some l =>
        rw [hk] at hw
        have hw : s_words N (fA (k : Int)) (fB (k : Int)) (fC (k : Int)) (sL r) = some (sL l, true) := hw
        obtain ⟨l3, lb⟩ := words_len hk hb
        rw [hw, bnd2_mk, br_not, br_t]
        exact lineV_eq N (by omega) (k : Int) l l3 lb
theorem cParse_loop (hN : 60 < N) : ∀ (t : Nat) (acc : List In) (s : List UInt8), s.length < t → s.length ≤ 900000 → acc.length ≤ 256 →
    S_cParse_2 N t s (iE acc) (fun l0 n1 l2 => some (l0, n1)) (fun l3 => some (l3, (0 : Int))) = some (decV (parseL t acc s))
  | 0, acc, s, ht, _, _ => by omega
  | t + 1, acc, [], ht, _, ha => by
    unfold S_cParse_2 F_cParse_2 parseL
    rw [br_not, br_dec, if_pos rfl]; rfl
  | t + 1, acc, b :: r, ht, hl, ha => by
    unfold S_cParse_2 F_cParse_2 parseL
    rw [br_not, br_dec, if_neg (by simp), br_dec, iE_len]
    by_cases c : acc.length = 256
    · rw [if_pos (by omega), if_pos c]; rfl
    rw [if_neg (by omega), if_neg c, cut_eq N 10 (b :: r) (by omega)]
    have hc1 := cut1_len 10 (b :: r)
    rcases hc : cut1 10 (b :: r) with ⟨x, y, e⟩
    rw [hc] at hc1
    simp only at hc1
    cases e with
    | false => rfl
    | true =>
      have hy : y.length < t := by
        have := congrArg List.length (cut1_back 10 _ x y hc)
        simp at this ht; omega
      simp only [bnd3_mk, br_not, br_t, if_true]
      rw [line_eq N hN x (by omega)]
      rcases hp : lineP x with ⟨i, e⟩
      unfold linT
      simp only [bnd5_mk, br_not, br_dec]
      by_cases c2 : e = 0
      · rw [if_pos c2, if_pos c2, if_pos (by simp <;> omega), iV_def, iE_snoc]
        exact cParse_loop hN t (acc ++ [i]) y hy (by omega) (by simp <;> omega)
      · rw [if_neg c2, if_neg c2]; rfl
theorem cParse_eq (hN : 60 < N) (s : List UInt8) (h : s.length < N) (h2 : s.length ≤ 900000) : s_cParse N s = some (decV (parseL N [] s)) := cParse_loop N hN N [] s h h2 (by simp)
end
end Go.Proofs.YtjpmogajlnkihaaDoor.En

/- The chapter's first example, as an item of the engine (written by hand after the printer's form: the printer takes too long at it). -/
namespace Go.Proofs.YtjpmogajlnkihaaDoor.En
open Go Go.Proofs
set_option maxRecDepth 100000
set_option linter.unusedVariables false
noncomputable def e_awake {R : Type} (s : Option (Bool)) (ds : List D) (K : List D → Option R) : Option R :=
  match ds with
  | [] => bnd1 (s) fun r0 => K [.v (.bool r0) .no]
  | _ => none
noncomputable def r_awake (rs : List D) (_ : Mem) : Option (Bool) :=
  match rs with
  | [.v (.bool r0) _] => some (r0)
  | _ => none
def awL : List V := [V.agg [.int .i64 3, .int .i64 0, .int .i64 0, .int .i64 0], V.agg [.int .i64 1, .int .i64 1, .int .i64 0, .int .i64 0], V.agg [.int .i64 9, .int .i64 0, .int .i64 0, .int .i64 0], V.agg [.int .i64 49, .int .i64 0, .int .i64 0, .int .i64 0]]
def awT : List UInt8 := [108, 111, 97, 100, 32, 48, 10, 112, 117, 115, 104, 32, 49, 10, 97, 100, 100, 10, 114, 101, 116, 117, 114, 110, 10]
noncomputable def s_awake (N : Nat)  : Option (Bool) := bnd2 (s_cEncode N awL) fun l0 n1 => bnd2 (s_cParse N awT) fun l2 n3 => br (decide (n1 = 0)) (bnd1 (s_Same1 N l0 ([3, 0, 1, 0, 0, 0, 1, 9, 49] : List UInt8)) fun b4 => br b4 (br (decide (n3 = 0)) (bnd1 (s_rSame N l2 awL) fun b5 => br b5 (bnd1 (s_cText N awL) fun l6 => some (decide (l6 = awT))) (some false)) (some false)) (some false)) (some false)
noncomputable def cx_awake (N : Nat) : Cx := { T := T, isPure := tabP [⟨15, e_cEncode (s_cEncode N)⟩, ⟨20, e_cParse (s_cParse N)⟩, ⟨17, e_Same1 (s_Same1 N)⟩, ⟨22, e_rSame (s_rSame N)⟩, ⟨18, e_cText (s_cText N)⟩], pureK := fun g ds K => tabK [⟨15, e_cEncode (s_cEncode N)⟩, ⟨20, e_cParse (s_cParse N)⟩, ⟨17, e_Same1 (s_Same1 N)⟩, ⟨22, e_rSame (s_rSame N)⟩, ⟨18, e_cText (s_cText N)⟩] g ds K, memK := fun g dst ds m K => tabMK [] g dst ds m K, meth := tabM [], keep := fun _ => [], keepX := fun _ => [], loopT := fun _ _ _ _ => none, jumps := 9 }
theorem s_awake_ok (N : Nat)  : bodyK (cx_awake N) Tryd.f14 [] [] r_awake = s_awake N  := by
  kernel_rfl
theorem go_awake : Goes Tryd.prog 14 := goes_of Tryd.func14 (by kernel_rfl) (c := bodyOf Tryd.f14) (by kernel_rfl)
theorem eo_awake (s : Option (Bool)) (hs : ∀  (r0 : Bool), s  = some r0 → PureRet Tryd.prog T 14 [] [.v (.bool r0) .no]) : EntOK Tryd.prog T ⟨14, e_awake s⟩ := by
  refine ⟨go_awake, fun R ds K r h => ?_, fun R ds K => ?_⟩
  · simp only [e_awake] at h
    split at h
    · obtain ⟨r0, h1, h2⟩ := bnd1_some h
      exact ⟨_, h2, hs _ h1⟩
    · cases h
  · simp only [e_awake]
    split
    · rw [bnd1_b]; rfl
    · rfl
theorem co_awake (N : Nat) : CxOK Tryd.prog (cx_awake N) :=
  cxOK_of2 (es := [⟨15, e_cEncode (s_cEncode N)⟩, ⟨20, e_cParse (s_cParse N)⟩, ⟨17, e_Same1 (s_Same1 N)⟩, ⟨22, e_rSame (s_rSame N)⟩, ⟨18, e_cText (s_cText N)⟩]) (me := []) (ms := []) T_ok ⟨eo_cEncode _ (p_cEncode N), eo_cParse _ (p_cParse N), eo_Same1 _ (p_Same1 N), eo_rSame _ (p_rSame N), eo_cText _ (p_cText N), trivial⟩ trivial trivial rfl (fun _ _ _ _ => rfl) (fun _ _ _ _ _ _ => rfl) rfl
theorem lo_awake (N : Nat) : LoopsOK (cx_awake N) Tryd.f14.ntmps (bodyOf Tryd.f14) :=
  loopsOK_of (k := 0) (by kernel_rfl) trivial
theorem p_awake (N : Nat)  (r0 : Bool) (h : s_awake N  = some r0) : PureRet Tryd.prog T 14 [] [.v (.bool r0) .no] :=
  pure_of (cx := cx_awake N) (by kernel_rfl) (co_awake N) Tryd.func14 (by kernel_rfl) (by kernel_rfl) (lo_awake N) rfl rfl rfl (rf := r_awake) ((s_awake_ok N ).trans h) (fun rs' m h => by
    unfold r_awake at h
    split at h
    · cases h; exact ⟨rfl, rfl⟩
    · cases h)
end Go.Proofs.YtjpmogajlnkihaaDoor.En

/- Functions of the program in plain Lean, joined to the program by evaluation; printed by a program. -/
namespace Go.Proofs.YtjpmogajlnkihaaDoor.En
open Go Go.Proofs
set_option maxRecDepth 100000
set_option linter.unusedVariables false
end Go.Proofs.YtjpmogajlnkihaaDoor.En

/- The printed functions, together. -/

/- Functions of the program in plain Lean, joined to the program by evaluation; printed by a program. -/
namespace Go.Proofs.YtjpmogajlnkihaaDoor.En
open Go Go.Proofs
set_option maxRecDepth 100000
set_option linter.unusedVariables false
end Go.Proofs.YtjpmogajlnkihaaDoor.En

/- The printed functions, together. -/

/- The laws of chapter 27: Checks, Encodes, Decodes, Texts, Natives, RoundTrip; no program in sight. -/
namespace Go.Proofs.YtjpmogajlnkihaaDoor.En
open Go
set_option linter.unusedVariables false
theorem midG {α : Type} (pre : List α) (x : α) (suf : List α) : pre ++ x :: suf = (pre ++ [x]) ++ suf := by simp
section
variable (N : Nat) {R : Type}
theorem cmp_loop : ∀ (a b pre : List UInt8) (t : Nat), a.length < t → pre.length + a.length ≤ 9223372036854775807 → pre.length + b.length ≤ 9223372036854775807 →
    ∃ z, S_Compare_2 N (pre ++ a) (pre ++ b) t (pre.length : Int) (fun n0 => some n0) (br (decide (((pre ++ a).length : Int) < ((pre ++ b).length : Int))) (some (-1)) (br (decide (((pre ++ b).length : Int) < ((pre ++ a).length : Int))) (some 1) (some 0))) = some z ∧ (z = 0 ↔ a = b)
  | a, b, pre, 0, ht, _, _ => by omega
  | [], [], pre, t + 1, ht, _, _ => by
    unfold S_Compare_2 F_Compare_2
    exact ⟨0, by simp [br], by simp⟩
  | [], y :: b, pre, t + 1, ht, _, _ => by
    unfold S_Compare_2 F_Compare_2
    refine ⟨-1, ?_, by simp⟩
    simp only [br_dec, List.append_nil]
    rw [if_neg (by omega), if_pos (by simp <;> omega)]
  | x :: a, [], pre, t + 1, ht, _, _ => by
    unfold S_Compare_2 F_Compare_2
    refine ⟨1, ?_, by simp⟩
    simp only [br_dec, List.append_nil]
    rw [if_pos (by simp <;> omega), if_neg (by omega), if_neg (by simp <;> omega), if_pos (by simp <;> omega)]
  | x :: a, y :: b, pre, t + 1, ht, h1, h2 => by
    simp only [List.length_cons] at ht h1 h2
    obtain ⟨z, ih1, ih2⟩ := cmp_loop a b (pre ++ [x]) t (by omega) (by simp <;> omega) (by simp <;> omega)
    have e1 : (pre.length : Int) < ((pre ++ x :: a).length : Int) := by simp; omega
    have e2 : (pre.length : Int) < ((pre ++ y :: b).length : Int) := by simp; omega
    have e3 : (0 : Int) ≤ pre.length := by omega
    have e4 : IntKind.i64.wrap ((pre.length : Int) + 1) = ((pre ++ [x]).length : Int) := by rw [w64 (by omega) (by omega)]; simp
    unfold S_Compare_2 F_Compare_2
    simp only [br_t, br_f, br_dec, br_not, br_and, br_or, bnd1_mk, bnd2_mk, bnd3_mk, bnd4_mk, bnd5_mk, bnd10_mk, at_zero, at_succ, at_mid, unInt_mk, unBool_mk, unStr_mk, unBytes_mk, unSl_mk, unAgg_mk, unCons_mk, unNil_mk, e1, e2, e3, if_true, Int.toNat_natCast]
    by_cases c1 : (x.toNat : Int) < (y.toNat : Int)
    · rw [if_pos c1]
      exact ⟨-1, rfl, ⟨fun h => (by cases h), fun h => by injection h with h _; subst h; omega⟩⟩
    rw [if_neg c1]
    by_cases c2 : (y.toNat : Int) < (x.toNat : Int)
    · rw [if_pos c2]
      exact ⟨1, rfl, ⟨fun h => (by cases h), fun h => by injection h with h _; subst h; omega⟩⟩
    rw [if_neg c2]
    obtain rfl : x = y := UInt8.toNat_inj.1 (by omega)
    refine ⟨z, ?_, by rw [ih2]; simp⟩
    rw [e4]
    rw [← midG, ← midG] at ih1
    simpa only [br_dec] using ih1
theorem Same1_eq (a b : List UInt8) (h : a.length < N) (h1 : a.length ≤ 9223372036854775807) (h2 : b.length ≤ 9223372036854775807) : s_Same1 N a b = some (decide (a = b)) := by
  obtain ⟨z, h3, h4⟩ := cmp_loop N a b [] N h (by simpa using h1) (by simpa using h2)
  have h3' : s_Compare N a b = some z := h3
  unfold s_Same1
  rw [h3', bnd1_mk]
  exact congrArg some (decide_eq_decide.2 h4)
/-- A list of instructions is the same as itself. -/
theorem rSame_loop (K0 : Bool → Option R) (K1 : Option R) : ∀ (l : List In) (pre : List V) (t : Nat), l.length < t → pre.length + l.length ≤ 1000000 → S_rSame_4 N (pre ++ iE l) (pre ++ iE l) t (pre.length : Int) K0 K1 = K1
  | l, pre, 0, ht, _ => by omega
  | [], pre, t + 1, ht, _ => by
    unfold S_rSame_4 F_rSame_4
    simp only [iE, br_t, br_f, br_dec, br_not, br_and, br_or, bnd1_mk, bnd2_mk, bnd3_mk, bnd4_mk, bnd5_mk, bnd10_mk, at_zero, at_succ, at_mid, unInt_mk, unBool_mk, unStr_mk, unBytes_mk, unSl_mk, unAgg_mk, unCons_mk, unNil_mk, endV, if_false]
  | i :: l, pre, t + 1, ht, hl => by
    simp only [List.length_cons] at ht hl
    obtain ⟨h1, h2, h3⟩ := stepV pre (iV i) (iE l) (by rw [iE_len]; omega)
    have ih := rSame_loop K0 K1 l (pre ++ [iV i]) t (by omega) (by simp <;> omega)
    rw [← midV, ← h3] at ih
    unfold S_rSame_4 F_rSame_4
    simp only [iE, br_t, br_f, br_dec, br_not, br_and, br_or, bnd1_mk, bnd2_mk, bnd3_mk, bnd4_mk, bnd5_mk, bnd10_mk, at_zero, at_succ, at_mid, unInt_mk, unBool_mk, unStr_mk, unBytes_mk, unSl_mk, unAgg_mk, unCons_mk, unNil_mk, h1, h2, if_true, Int.toNat_natCast]
    show V.unAgg (iV i) _ = _
    unfold iV
    simp only [br_t, br_f, br_dec, br_not, br_and, br_or, bnd1_mk, bnd2_mk, bnd3_mk, bnd4_mk, bnd5_mk, bnd10_mk, at_zero, at_succ, at_mid, unInt_mk, unBool_mk, unStr_mk, unBytes_mk, unSl_mk, unAgg_mk, unCons_mk, unNil_mk, if_true]
    unfold iV at ih
    exact ih
theorem rSame_eq (l : List In) (h : l.length < N) (h2 : l.length ≤ 900000) : s_rSame N (iE l) (iE l) = some true := by
  unfold s_rSame
  rw [br_not, br_dec, if_pos rfl]
  have := rSame_loop N (fun b0 => some b0) (some true) l [] N h (by simpa using by omega)
  rw [List.nil_append] at this
  exact this
theorem encL_of {l : List In} (h1 : l.length ≤ 256) (h2 : firstE l = 0) : encL l = (encAll l, 0) := by
  unfold encL
  rw [if_neg (by omega), if_pos h2]
/-! The chapter's first example -/
def awI : List In := [⟨3, 0, 0, 0⟩, ⟨1, 1, 0, 0⟩, ⟨9, 0, 0, 0⟩, ⟨49, 0, 0, 0⟩]
theorem awL_iE : awL = iE awI := id rfl
theorem awI_ok : firstE awI = 0 := by decide +kernel
theorem awI_enc : encAll awI = [3, 0, 1, 0, 0, 0, 1, 9, 49] := by decide +kernel
theorem awI_txt : textAll awI = awT := by decide +kernel
theorem awake_eq (hN : 200000 < N) : s_awake N = some true := by
  have he : encL awI = ([3, 0, 1, 0, 0, 0, 1, 9, 49], 0) := by rw [encL_of (by decide) awI_ok, awI_enc]
  have ht : textL awI = awT := by unfold textL; rw [he]; exact awI_txt
  have hp : parseL N [] awT = (awI, 0) := by rw [← awI_txt]; exact parse_text awI [] N (by show 4 < N; omega) (by decide) awI_ok
  unfold s_awake
  rw [awL_iE, cEncode_eq N (by omega) awI (by show 4 < N; omega) (by decide), he, bnd2_mk, cParse_eq N (by omega) awT (by show 25 < N; omega) (by decide), hp]
  unfold decV
  rw [bnd2_mk, br_dec, if_pos rfl, Same1_eq N _ _ (by show 9 < N; omega) (by decide) (by decide), bnd1_mk, decide_eq_true rfl, br_t, br_dec, if_pos rfl, rSame_eq N awI (by show 4 < N; omega) (by decide), bnd1_mk, br_t,
    cText_eq N (by omega) awI (by show 4 < N; omega) (by decide), ht, bnd1_mk, decide_eq_true rfl]
/-! The laws -/
end
end Go.Proofs.YtjpmogajlnkihaaDoor.En

/- The engine, part 2r: what an argument that came in reads as. No program in sight. -/
namespace Go.Proofs.YtjpmogajlnkihaaDoor.En
open Go Go.RowKit
set_option linter.unusedVariables false
/-- A world of arguments: nothing is written. -/
def immG (T : TypeId → Option Ty) : G := { Γ := fun _ => .imm, J := fun _ _ => 0, sz := sizes T }
theorem stable_imm (T : TypeId → Option Ty) (b o : Nat) : Stable (immG T) b o := trivial
/-- An element, given its cells. -/
def mkEl (row : Bool) (cs : List V) : V := match row with | true => .agg cs | false => cs.headD .nilI
/-- Cells that have the shape of a type. -/
def FitsFs (F : TypeId → List V → Prop) : List Field → List V → Prop
  | [], xs => xs = []
  | f :: fs, xs => ∃ a r, xs = a ++ r ∧ F f.type a ∧ FitsFs F fs r
def Fits (T : TypeId → Option Ty) : Nat → TypeId → List V → Prop
  | 0, _, _ => False
  | n + 1, t, xs => match T t with
    | none => False
    | some ty => match ty.desc with
      | .bool => ∃ b, xs = [.bool b]
      | .int k => ∃ i, xs = [.int k i] ∧ k.min ≤ i ∧ i ≤ k.max
      | .string => ∃ s, xs = [.str s] ∧ s.length ≤ maxLen
      | .slice e => match ty.cks with
        | [.bytes _] => ∃ s, xs = [.bytes s] ∧ s.length ≤ maxLen
        | [.slc e'] => e' = e ∧ ∃ ys, xs = [.sl e ys] ∧ ys.length ≤ maxLen ∧ ∀ y ∈ ys, ∃ te cs, T e = some te ∧ y = mkEl te.row cs ∧ Fits T n e cs
        | _ => False
      | .struct fs => FitsFs (Fits T n) fs.toList xs
      | _ => False
/-- A type that is read. -/
def readable (T : TypeId → Option Ty) (t : TypeId) : Bool :=
  match T t with
  | none => false
  | some ty => match ty.desc with
    | .bool => true
    | .int _ => true
    | .string => true
    | .slice e => (match T e with
      | none => false
      | some te => (match ty.cks with
        | [.bytes _] => (match te.desc with | .int .u8 => Nat.beq te.size 1 | _ => false)
        | [.slc e'] => Nat.beq e' e && Nat.ble 1 te.size && (match te.row with | true => true | false => Nat.beq te.size 1)
        | _ => false))
    | .struct fs => contigT T ty.size 0 fs.toList && fs.toList.all (fun f => match T f.type with | some _ => true | none => false)
    | _ => false
/-- The types that a type leads to. -/
def closedT (T : TypeId → Option Ty) (l : List TypeId) : Bool :=
  l.all fun t => readable T t && (match T t with
    | none => false
    | some ty => match ty.desc with
      | .slice e => l.any (Nat.beq e)
      | .struct fs => fs.toList.all fun f => l.any (Nat.beq f.type)
      | _ => true)
section
variable {H : Type} {enc : TypeId × Value → H} {P : Program} {T : TypeId → Option Ty} {w : World} {base : Nat} {spare : Nat → Bool} {held : Bool}
structure RepC (T : TypeId → Option Ty) (w : World) (xs : List V) (cs : List Value) : Prop where
  len : xs.length = cs.length
  one : ∀ x ∈ xs, x.one = true
  rep : ∀ (k : Nat) y, xs[k]? = some y → RepV (immG T) w y (cs.getD k undef)
theorem RepC.single {x : V} {v : Value} (h1 : x.one = true) (h : RepV (immG T) w x v) : RepC T w [x] [v] :=
  ⟨rfl, fun y hy => by simp at hy; subst hy; exact h1, fun k y hk => by
    rcases k with _ | k
    · simp at hk; subst hk; simpa using h
    · simp at hk⟩
theorem RepC.append {xs ys : List V} {cs ds : List Value} (h : RepC T w xs cs) (k : RepC T w ys ds) : RepC T w (xs ++ ys) (cs ++ ds) := by
  refine ⟨by simp [h.len, k.len], fun x hx => ?_, fun i y hy => ?_⟩
  · rcases List.mem_append.1 hx with hx | hx
    · exact h.one x hx
    · exact k.one x hx
  · rcases Nat.lt_or_ge i xs.length with hl | hl
    · rw [List.getElem?_append_left hl] at hy
      have := h.rep i y hy
      rw [List.getD_eq_getElem?_getD, List.getElem?_append_left (by rw [← h.len]; exact hl), ← List.getD_eq_getElem?_getD]
      exact this
    · rw [List.getElem?_append_right hl] at hy
      have := k.rep _ y hy
      rw [List.getD_eq_getElem?_getD, List.getElem?_append_right (by rw [← h.len]; exact hl), ← h.len, ← List.getD_eq_getElem?_getD]
      exact this
theorem cellsOf_eq (hT : TypesOK P T) {t : TypeId} {ty : Ty} (h : T t = some ty) : P.cellsOf t = ty.size := by
  obtain ⟨i, h1, _, h2, _⟩ := (hT t ty h).info
  simp [Program.cellsOf, h1, h2]
theorem sizes_eq {t : TypeId} {ty : Ty} (h : T t = some ty) : sizes T t = ty.size := by unfold sizes; rw [h]
theorem add_none (b off i : Nat) : (⟨b, off, none⟩ : Addr).add i = ⟨b, off + i, none⟩ := by
  unfold Addr.add
  by_cases h0 : i = 0
  · subst h0; rfl
  · rw [if_neg h0]
theorem spot_row {a : Addr} {n k : Nat} {cs : List Value} (h : w.cells? base (a.add (0 * n)) k = some cs) (hk : 0 < k) : a.spot = none := by
  obtain ⟨_, hl, h5⟩ := World.cells?_some h
  have h6 := h5 0 hk
  rw [List.getElem?_eq_getElem (by omega)] at h6
  have := World.cell?_spot h6
  simpa [Addr.add] using this
theorem mkEl_cells {row : Bool} {cs : List V} (ho : ∀ x ∈ cs, x.one = true) (h : row = false → cs.length = 1) : (mkEl row cs).cells = cs := by
  cases row with
  | true => rfl
  | false =>
    have := h rfl
    match cs, this with
    | [x], _ =>
      have := ho x (by simp)
      show V.cells x = [x]
      cases x <;> first | rfl | cases this
theorem okEl_mk {row : Bool} {cs : List V} {n : Nat} (hl : cs.length = n) (ho : ∀ x ∈ cs, x.one = true) (h : row = false → cs.length = 1) : okEl n (mkEl row cs) = true := by
  unfold okEl
  rw [mkEl_cells ho h]
  simp only [Bool.and_eq_true, beq_iff_eq, List.all_eq_true]
  exact ⟨hl, ho⟩
theorem flatT_get {α : Type} {n : Nat} : ∀ (l : List (List α)) (i j : Nat) (c : List α), (∀ c ∈ l, c.length = n) → l[i]? = some c → j < n → l.flatten[i * n + j]? = c[j]?
  | [], i, j, c, _, h, _ => by simp at h
  | d :: l, 0, j, c, hl, h, hj => by
    simp at h; subst h
    have := hl d (by simp)
    rw [List.flatten_cons, Nat.zero_mul, Nat.zero_add, List.getElem?_append_left (by omega)]
  | d :: l, i + 1, j, c, hl, h, hj => by
    have hd := hl d (by simp)
    rw [List.flatten_cons, Nat.succ_mul, List.getElem?_append_right (by omega)]
    rw [show i * n + n + j - d.length = i * n + j by omega]
    exact flatT_get l i j c (fun c hc => hl c (by simp [hc])) (by simpa using h) hj
theorem flatT_len {α : Type} {n : Nat} : ∀ (l : List (List α)), (∀ c ∈ l, c.length = n) → l.flatten.length = l.length * n
  | [], _ => by simp
  | d :: l, h => by
    rw [List.flatten_cons, List.length_append, h d (by simp), flatT_len l fun c hc => h c (by simp [hc]), List.length_cons, Nat.succ_mul]; omega
theorem choose_list {α : Type} {p : Nat → α → Prop} : ∀ (n : Nat), (∀ i, i < n → ∃ a, p i a) → ∃ l : List α, l.length = n ∧ ∀ (i : Nat) a, l[i]? = some a → p i a
  | 0, _ => ⟨[], rfl, fun i a h => by simp at h⟩
  | n + 1, h => by
    obtain ⟨l, h1, h2⟩ := choose_list n fun i hi => h i (by omega)
    obtain ⟨a, ha⟩ := h n (by omega)
    refine ⟨l ++ [a], by simp [h1], fun i b hb => ?_⟩
    rcases Nat.lt_or_ge i l.length with hl | hl
    · rw [List.getElem?_append_left hl] at hb; exact h2 i b hb
    · rw [List.getElem?_append_right hl] at hb
      have : i = n := by
        have := (List.getElem?_eq_some_iff.1 hb).1
        simp at this; omega
      subst this
      rw [h1] at hb
      simp at hb
      subst hb; exact ha
theorem trod_rep (hT : TypesOK P T) {l : List TypeId} (hl : closedT T l = true) : ∀ (fuel : Nat) (t : TypeId) (cs : List Value) (x : DataW H × List MemPlace), t ∈ l → DataW.trod enc P w base spare held fuel t cs = some x →
    ∃ xs, RepC T w xs cs ∧ Fits T fuel t xs ∧ ∀ ty, T t = some ty → cs.length = ty.size
  | 0, t, cs, x, _, h => by simp [DataW.trod] at h
  | n + 1, t, cs, x, hm, h => by
    have hcl := List.all_eq_true.1 hl t hm
    simp only [Bool.and_eq_true] at hcl
    obtain ⟨hre, hlead⟩ := hcl
    unfold Fits
    unfold readable at hre
    cases hTt : T t with
    | none => rw [hTt] at hre; simp at hre
    | some ty =>
    rw [hTt] at hre hlead
    simp only at hre hlead ⊢
    have hd := (hT t ty hTt).desc
    have h1c : ty.row = false → ty.size = 1 := (hT t ty hTt).one
    cases hdesc : ty.desc <;> rw [hdesc] at hre hlead hd <;> simp only [Bool.false_eq_true] at hre hlead ⊢
    · obtain ⟨b, rfl, _⟩ := DataW.trod_bool hd h
      exact ⟨[.bool b], .single rfl (.bool b), ⟨b, rfl⟩, fun ty' e => by cases e; rw [h1c (by simp [Ty.row, hdesc])]; rfl⟩
    · rename_i k
      obtain ⟨i, rfl, _, hwf⟩ := DataW.trod_int hd h
      have hb : k.min ≤ i ∧ i ≤ k.max := by simpa [Lit.wf] using hwf
      exact ⟨[.int k i], .single rfl (.int k i hb), ⟨i, rfl, hb⟩, fun ty' e => by cases e; rw [h1c (by simp [Ty.row, hdesc])]; rfl⟩
    · obtain ⟨s, rfl, _, hs⟩ := DataW.trod_string hd h
      have e : s = ⟨s.data.toList.toArray⟩ := by cases s; simp
      have hsl : s.data.toList.length = s.size := by cases s; rfl
      refine ⟨[.str s.data.toList], .single rfl ?_, ⟨_, rfl, by rw [hsl]; exact hs⟩, fun ty' e => by cases e; rw [h1c (by simp [Ty.row, hdesc])]; rfl⟩
      have := RepV.str (g := immG T) (w := w) s.data.toList (by rw [hsl]; unfold maxLen at hs; omega)
      rwa [← e] at this
    · rename_i e
      cases hTe : T e with
      | none => rw [hTe] at hre; simp at hre
      | some te =>
      rw [hTe] at hre
      simp only at hre
      have hsz := cellsOf_eq hT hTe
      have hmem : e ∈ l := by
        obtain ⟨z, hz, hb⟩ := List.any_eq_true.1 hlead
        have := Nat.eq_of_beq_eq_true hb
        subst this; exact hz
      have hsize : ∀ ty', some ty = some ty' → ∀ v : Value, [v].length = ty'.size := fun ty' e v => by cases e; rw [h1c (by simp [Ty.row, hdesc])]; rfl
      split at hre
      · rename_i e0 hcks
        split at hre
        · rename_i hte
          have hte1 := Nat.eq_of_beq_eq_true hre
          rw [hte1] at hsz
          have hde := (hT e te hTe).desc
          rw [hte] at hde
          rcases DataW.trod_slice hd h with ⟨rfl, _⟩ | ⟨a, len, cap, elems, rest, m, e1, rfl, _, hb, hlc, hcm, hel, hget, _, _⟩
          · exact ⟨[.bytes []], .single rfl (.bytes [] none 0 0 rfl (Nat.le_refl _) (by simp) (fun k x hx => by simp at hx)), ⟨[], rfl, by simp⟩, fun ty' e => hsize ty' e _⟩
          · have key : ∀ i, i < len → ∃ b : UInt8, ∃ bb off, a = ⟨bb, off, none⟩ ∧ w.cell? ⟨bb, off + i, none⟩ = some (.int .u8 (b.toNat : Int)) := by
              intro i hi
              have h2 := hget i hi
              rw [List.getElem?_eq_getElem (by rw [hel]; exact hi), Option.bind_eq_some_iff] at h2
              obtain ⟨cs, h3, h4⟩ := h2
              obtain ⟨z, rfl, _, hwf⟩ := DataW.trod_int hde h4
              rw [hsz, Nat.mul_one] at h3
              obtain ⟨_, _, h5⟩ := World.cells?_some h3
              have h6 := h5 0 (by omega)
              simp at h6
              have hzr : 0 ≤ z ∧ z ≤ 255 := by simpa [Lit.wf, IntKind.min, IntKind.max, IntKind.signed, IntKind.bits] using hwf
              have hspn : a.spot = none := by
                have h2 := hget 0 (by omega)
                rw [List.getElem?_eq_getElem (by omega), Option.bind_eq_some_iff] at h2
                obtain ⟨cs, h3, _⟩ := h2
                exact spot_row h3 (by omega)
              obtain ⟨bb, off, sp⟩ := a
              simp only at hspn
              subst hspn
              refine ⟨UInt8.ofNat z.toNat, bb, off, rfl, ?_⟩
              rw [add_none] at h6
              have hz2 : (off + i + 0) = off + i := rfl
              rw [show ((UInt8.ofNat z.toNat).toNat : Int) = z by rw [UInt8.toNat_ofNat', Nat.mod_eq_of_lt (by omega)]; omega]
              simpa [Addr.add] using h6
            obtain ⟨bs, b1, b2⟩ := choose_list len key
            refine ⟨[.bytes bs], .single rfl (.bytes bs (some a) len cap b1 hlc hcm fun k x hx => ?_), ⟨bs, rfl, by omega⟩, fun ty' e => hsize ty' e _⟩
            obtain ⟨bb, off, c1, c2⟩ := b2 k x hx
            exact ⟨bb, off, by rw [c1], stable_imm T _ _, c2⟩
        · cases hre
      · rename_i e0 hcks
        simp only [Bool.and_eq_true] at hre
        obtain ⟨⟨he0, hte1⟩, hrow⟩ := hre
        have he0 := Nat.eq_of_beq_eq_true he0
        have hte1 := Nat.le_of_ble_eq_true hte1
        have hrow1 : te.row = false → te.size = 1 := (hT e te hTe).one
        have hszs : (immG T).sz e = te.size := sizes_eq hTe
        rcases DataW.trod_slice hd h with ⟨rfl, _⟩ | ⟨a, len, cap, elems, rest, m, e1, rfl, _, hb, hlc, hcm, hel, hget, _, _⟩
        · exact ⟨[.sl e []], .single rfl (.sl e [] none 0 0 (fun _ => undef) rfl (Nat.le_refl _) (by simp) (by simp) (fun k y hy => by simp at hy) (fun k y hy => by simp at hy)), ⟨he0, [], rfl, by simp, by simp⟩, fun ty' e => hsize ty' e _⟩
        · obtain rfl : n = m := by omega
          have key : ∀ i, i < len → ∃ p : List V × List Value, RepC T w p.1 p.2 ∧ Fits T n e p.1 ∧ p.2.length = te.size ∧ ∃ bb off, a = ⟨bb, off, none⟩ ∧ ∀ j, j < te.size → w.cell? ⟨bb, off + (i * te.size + j), none⟩ = some (p.2.getD j undef) := by
            intro i hi
            have h2 := hget i hi
            rw [List.getElem?_eq_getElem (by rw [hel]; exact hi), Option.bind_eq_some_iff] at h2
            obtain ⟨cs, h3, h4⟩ := h2
            obtain ⟨xs, c1, c2, c3⟩ := trod_rep hT hl n e cs _ hmem h4
            have c3 := c3 te hTe
            rw [hsz] at h3
            obtain ⟨_, _, h5⟩ := World.cells?_some h3
            have hspn : a.spot = none := by
              have h2 := hget 0 (by omega)
              rw [List.getElem?_eq_getElem (by omega), Option.bind_eq_some_iff] at h2
              obtain ⟨cs, h3, _⟩ := h2
              exact spot_row h3 (by omega)
            obtain ⟨bb, off, sp⟩ := a
            simp only at hspn
            subst hspn
            refine ⟨(xs, cs), c1, c2, c3, bb, off, rfl, fun j hj => ?_⟩
            have h7 := h5 j hj
            rw [add_none, add_none, Nat.add_assoc] at h7
            rw [h7, List.getD_eq_getElem?_getD]
            show cs[j]? = some (cs[j]?.getD undef)
            rw [List.getElem?_eq_getElem (by omega)]; rfl
          obtain ⟨ps, b1, b2⟩ := choose_list len key
          have hxl : ∀ p ∈ ps, p.1.length = te.size ∧ ∀ x ∈ p.1, x.one = true := by
            intro p hp
            obtain ⟨i, hi⟩ := List.getElem?_of_mem hp
            obtain ⟨c1, _, c3, _⟩ := b2 i p hi
            exact ⟨by rw [c1.len, c3], c1.one⟩
          have hcells : ∀ p ∈ ps, (mkEl te.row p.1).cells = p.1 := fun p hp => mkEl_cells (hxl p hp).2 fun hr => by rw [(hxl p hp).1, hrow1 hr]
          have hflat : (ps.map fun p => mkEl te.row p.1).flatMap V.cells = (ps.map (·.1)).flatten := by
            rw [List.flatMap_def, List.map_map]
            congr 1
            exact List.map_congr_left fun p hp => hcells p hp
          have hall : ∀ c ∈ ps.map (·.1), c.length = te.size := fun c hc => by
            obtain ⟨p, hp, rfl⟩ := List.mem_map.1 hc
            exact (hxl p hp).1
          have hlook : ∀ (k : Nat) (y : V), ((ps.map fun p => mkEl te.row p.1).flatMap V.cells)[k]? = some y → ∃ i j p, k = i * te.size + j ∧ j < te.size ∧ ps[i]? = some p ∧ p.1[j]? = some y := by
            intro k y hk
            rw [hflat] at hk
            have hk1 := (List.getElem?_eq_some_iff.1 hk).1
            rw [flatT_len _ hall, List.length_map, b1] at hk1
            have hpos : 0 < te.size := by omega
            have hi : k / te.size < len := (Nat.div_lt_iff_lt_mul hpos).2 hk1
            have hj : k % te.size < te.size := Nat.mod_lt _ hpos
            have hkk : k = k / te.size * te.size + k % te.size := by rw [Nat.mul_comm]; exact (Nat.div_add_mod k te.size).symm
            have hp : ps[k / te.size]? = some (ps[k / te.size]'(by omega)) := List.getElem?_eq_getElem (by omega)
            refine ⟨k / te.size, k % te.size, _, hkk, hj, hp, ?_⟩
            rw [hkk] at hk
            rw [flatT_get _ _ _ _ hall (by rw [List.getElem?_map, hp]; rfl) hj] at hk
            exact hk
          refine ⟨[.sl e (ps.map fun p => mkEl te.row p.1)], .single rfl (.sl e _ (some a) len cap (fun k => ((ps.map (·.2)).flatten).getD k undef) (by simp [b1]) hlc hcm (fun x hx => ?_) (fun k y hk => ?_) (fun k y hk => ?_)), ⟨he0, _, rfl, by simp [b1]; omega, fun y hy => ?_⟩, fun ty' e => hsize ty' e _⟩
          · obtain ⟨p, hp, rfl⟩ := List.mem_map.1 hx
            rw [hszs]
            exact okEl_mk (hxl p hp).1 (hxl p hp).2 fun hr => by rw [(hxl p hp).1, hrow1 hr]
          · obtain ⟨i, j, p, rfl, hj, hp, hy⟩ := hlook k y hk
            obtain ⟨_, _, c3, bb, off, c4, c5⟩ := b2 i p hp
            refine ⟨bb, off, by rw [c4], stable_imm T _ _, ?_⟩
            rw [c5 j hj]
            have : (ps.map (·.2)).flatten[i * te.size + j]? = p.2[j]? := flatT_get _ _ _ _ (fun c hc => by
              obtain ⟨q, hq, rfl⟩ := List.mem_map.1 hc
              obtain ⟨i', hi'⟩ := List.getElem?_of_mem hq
              exact (b2 i' q hi').2.2.1) (by rw [List.getElem?_map, hp]; rfl) hj
            rw [List.getD_eq_getElem?_getD, List.getD_eq_getElem?_getD, this]
          · obtain ⟨i, j, p, rfl, hj, hp, hy⟩ := hlook k y hk
            obtain ⟨c1, _, c3, _⟩ := b2 i p hp
            have : (ps.map (·.2)).flatten[i * te.size + j]? = p.2[j]? := flatT_get _ _ _ _ (fun c hc => by
              obtain ⟨q, hq, rfl⟩ := List.mem_map.1 hc
              obtain ⟨i', hi'⟩ := List.getElem?_of_mem hq
              exact (b2 i' q hi').2.2.1) (by rw [List.getElem?_map, hp]; rfl) hj
            have := c1.rep j y hy
            rw [List.getD_eq_getElem?_getD] at this ⊢
            rwa [‹(ps.map (·.2)).flatten[i * te.size + j]? = p.2[j]?›]
          · obtain ⟨p, hp, rfl⟩ := List.mem_map.1 hy
            obtain ⟨i, hi⟩ := List.getElem?_of_mem hp
            exact ⟨te, p.1, rfl, rfl, (b2 i p hi).2.1⟩
      · cases hre
    · rename_i fs
      simp only [Bool.and_eq_true] at hre
      obtain ⟨hco, hfa⟩ := hre
      obtain ⟨ys, m, e1, _, hlen, _, hg⟩ := DataW.trod_struct hd h
      obtain rfl : n = m := by omega
      rw [cellsOf_eq hT hTt] at hlen
      have main : ∀ (l' : List Field) (i off : Nat), fs.toList.drop i = l' → contigT T ty.size off l' = true → off ≤ ty.size → ∃ xs, RepC T w xs (cs.drop off) ∧ FitsFs (Fits T n) l' xs := by
        intro l'
        induction l' with
        | nil =>
          intro i off hdr hc ho
          have := Nat.eq_of_beq_eq_true hc
          refine ⟨[], ⟨by simp; omega, by simp, by simp⟩, rfl⟩
        | cons f l' ih =>
          intro i off hdr hc ho
          simp only [contigT, Bool.and_eq_true] at hc
          obtain ⟨hc1, hc2⟩ := hc
          have hc1 := Nat.eq_of_beq_eq_true hc1
          have hfi : fs.toList[i]? = some f := by
            have : (fs.toList.drop i)[0]? = some f := by rw [hdr]; rfl
            simpa using this
          have hfm : f ∈ fs.toList := List.mem_of_getElem? hfi
          have h1 := List.all_eq_true.1 hfa f hfm
          have hfl : f.type ∈ l := by
            have := List.all_eq_true.1 hlead f hfm
            obtain ⟨z, hz, hb⟩ := List.any_eq_true.1 this
            have := Nat.eq_of_beq_eq_true hb
            rw [this]; exact hz
          cases hTf : T f.type with
          | none => rw [hTf] at h1; simp at h1
          | some tf =>
          have h2 := hg i f (by simpa using hfi)
          rw [cellsOf_eq hT hTf, hc1] at h2
          have hle : off + tf.size ≤ ty.size := by
            have : ∀ (l' : List Field) (off : Nat), contigT T ty.size off l' = true → off ≤ ty.size := by
              intro l'
              induction l' with
              | nil => intro off hc; have := Nat.eq_of_beq_eq_true hc; omega
              | cons f l' ih => intro off hc; simp only [contigT, Bool.and_eq_true] at hc; have := ih _ hc.2; omega
            have := this l' _ hc2
            rw [sizes_eq hTf] at this
            exact this
          have hys : i < ys.length := by
            cases hyi : ys[i]? with
            | none =>
              have hfi2 : i < fs.size := by
                have := (List.getElem?_eq_some_iff.1 hfi).1
                simpa using this
              have : ys.length = fs.size := by assumption
              rw [this]; exact hfi2
            | some y => exact (List.getElem?_eq_some_iff.1 hyi).1
          rw [List.getElem?_eq_getElem hys] at h2
          obtain ⟨xs, c1, c2, _⟩ := trod_rep hT hl n f.type _ _ hfl h2
          obtain ⟨rs, d1, d2⟩ := ih (i + 1) (off + sizes T f.type) (by rw [List.drop_add_one_eq_tail_drop, hdr]; rfl) hc2 (by rw [sizes_eq hTf]; exact hle)
          refine ⟨xs ++ rs, ?_, xs, rs, rfl, c2, d2⟩
          have := c1.append d1
          rw [sizes_eq hTf, ← List.drop_drop, List.take_append_drop] at this
          exact this
      obtain ⟨xs, c1, c2⟩ := main fs.toList 0 0 rfl hco (Nat.zero_le _)
      exact ⟨xs, by simpa using c1, c2, fun ty' e => by cases e; exact hlen⟩
/-- An argument. -/
theorem arg_rep (hT : TypesOK P T) {l : List TypeId} (hl : closedT T l = true) {t : TypeId} (ht : t ∈ l) {v : Value} {d : DataW H} {ps : List MemPlace} (hrow : ∀ ty, T t = some ty → (ty.row = true → ∃ cs, v = .agg cs) ∧ (ty.row = false → v.cells = #[v]))
    (hd : DataW.Trod enc P w base spare held t v d ps) : ∃ n x, Fits T n t (V.cells x) ∧ RepV (immG T) w x v ∧ ∀ ty, T t = some ty → x = mkEl ty.row (V.cells x) := by
  obtain ⟨fuel, hf⟩ := hd
  obtain ⟨xs, h1, h2, h3⟩ := trod_rep hT hl fuel t _ _ ht hf
  cases hTt : T t with
  | none => cases fuel <;> simp [Fits, hTt] at h2
  | some ty =>
  have h3 := h3 ty hTt
  obtain ⟨r1, r2⟩ := hrow ty hTt
  cases hr : ty.row with
  | true =>
    obtain ⟨cs, rfl⟩ := r1 hr
    refine ⟨fuel, .agg xs, h2, .agg xs cs (by rw [h1.len]; rfl) fun k y hk => ?_, fun ty' e => by cases e; rw [hr]; rfl⟩
    have := h1.rep k y hk
    simpa [Value.cells, List.getD_eq_getElem?_getD, Array.getD_eq_getD_getElem?] using this
  | false =>
    have hv := r2 hr
    rw [hv] at h1 h3
    have hl1 := h1.len
    simp at hl1
    match xs, hl1 with
    | [x], _ =>
      have ho := h1.one x (by simp)
      have hc : V.cells x = [x] := by cases x <;> first | rfl | cases ho
      exact ⟨fuel, x, by rw [hc]; exact h2, by simpa using h1.rep 0 x rfl, fun ty' e => by cases e; rw [hr, hc]; rfl⟩
end
end Go.Proofs.YtjpmogajlnkihaaDoor.En

/- The engine, part 2s: rows: arguments that came in, what a law's function leaves. -/
namespace Go.Proofs.YtjpmogajlnkihaaDoor.En
open Go Go.RowKit Go.WideShapes
set_option linter.unusedVariables false
theorem own : ownKnob Tryd.prog.godebug = none := by kernel_rfl
theorem laidOut : laidOutB Tryd.prog = true := by kernel_rfl
section
variable {P : Program} {T : TypeId → Option Ty} {f : FuncId} {w : World}
def noEnv : Env := { d := 0, dom := fun _ _ => False }
/-- What a row knows of the package variables. -/
def Globs (w : World) : Prop := ∀ b ∈ globD, ∃ x, w.heap[b]? = some x ∧ GlobV b x
theorem imm_sk (h : Globs w) : SzOK T (immG T) w := ⟨rfl, fun b hb => ⟨rfl, h b hb⟩⟩
theorem walk_of {ds : List D} (hp : PureRet P T f ds [.v (.bool true) .no]) {us : List Value} (hr : RepDs noEnv (immG T) w [] ds us) (hgl : Globs w := by intro _ h; cases h) :
    Calls P f us.toArray w fun e w' => e = .returned (.bool true) ∧ Below w.heap.size w w' := by
  refine (hp noEnv (immG T) w us (imm_sk hgl) hr).mono ?_
  rintro e w' ⟨us', g', rfl, h1, h2⟩
  obtain ⟨l, hr'⟩ := h1 noEnv
  match us', l with
  | [u], _ =>
  have := hr' 0 _ rfl
  simp only [List.getD_cons_zero] at this
  cases this with
  | v x a v h ha =>
  cases h
  exact ⟨rfl, ⟨h2.grows.os, h2.grows.tape, h2.grows.output, h2.grows.size, h2.grows.old⟩⟩
theorem reps_nil : RepDs noEnv (immG T) w [] [] [] := ⟨rfl, fun k y h => by simp at h⟩
theorem reps_cons {d : D} {u : Value} {ds : List D} {us : List Value} (h : RepD noEnv (immG T) w [] d u) (hs : RepDs noEnv (immG T) w [] ds us) : RepDs noEnv (immG T) w [] (d :: ds) (u :: us) :=
  ⟨by simp [hs.1], fun k y hk => by
    rcases k with _ | k
    · simp at hk; subst hk; exact h
    · simpa using hs.2 k y (by simpa using hk)⟩
theorem rep_v {x : V} {u : Value} (h : RepV (immG T) w x u) : RepD noEnv (immG T) w [] (.v x .no) u := .v _ _ _ h trivial
theorem rep_agg {cs : List V} {u : Value} (h : RepV (immG T) w (.agg cs) u) : RepD noEnv (immG T) w [] (.agg (cs.map vD)) u := by
  cases h with
  | agg cs us hn hr =>
    refine .agg _ us (by simpa using hn) fun k y hk => ?_
    rw [List.getElem?_map, Option.map_eq_some_iff] at hk
    obtain ⟨z, hz, rfl⟩ := hk
    exact .v _ _ _ (hr k z hz) trivial
variable {H : Type} {enc : TypeId × Value → H} {base : Nat} {spare : Nat → Bool} {held : Bool} {r : Reach} {b0 : Nat} {t : TypeId} {v : Value} {d : DataW H} {ps : List MemPlace} {l : List TypeId}
theorem row_of (hT : TypesOK P T) {desc : TypeDesc} (ht : P.underlying t = some desc) {ty : Ty} (h : T t = some ty) : ty.desc = desc := by
  have := (hT t ty h).desc
  rw [ht] at this
  injection this with this
  exact this.symm
theorem cells_self {x : V} (h : x = mkEl false (V.cells x)) : V.cells x = [x] := by
  cases x with
  | agg cs =>
    exfalso
    simp only [V.cells, mkEl] at h
    cases cs with
    | nil => simp at h
    | cons c r =>
      have h' : V.agg (c :: r) = c := h
      have : _root_.SizeOf.sizeOf (V.agg (c :: r)) = _root_.SizeOf.sizeOf c := by rw [h']
      simp at this
      omega
  | _ => rfl
theorem fits_self (hT : TypesOK P T) {desc : TypeDesc} (ht : P.underlying t = some desc) (hnr : ∀ ty : Ty, ty.desc = desc → ty.row = false) {n : Nat} {x : V} (h1 : Fits T n t (V.cells x)) (h3 : ∀ ty, T t = some ty → x = mkEl ty.row (V.cells x)) : Fits T n t [x] := by
  cases hTt : T t with
  | none => cases n <;> simp [Fits, hTt] at h1
  | some ty =>
    have := h3 ty hTt
    rw [hnr ty (row_of hT ht hTt)] at this
    rw [← cells_self this]; exact h1
theorem arg_int (hT : TypesOK P T) (hl : closedT T l = true) (hm : t ∈ l) {k : IntKind} (ht : P.underlying t = some (.int k)) (hv : Value.okWide P w r b0 t v) (hd : DataW.Trod enc P w base spare held t v d ps) :
    ∃ n x, Fits T n t [x] ∧ RepV (immG T) w x v := by
  obtain ⟨i, rfl⟩ := okWide_int ht hv
  obtain ⟨n, x, h1, h2, h3⟩ := arg_rep hT hl hm (fun ty hty => ⟨fun hr => (by rw [Ty.row, row_of hT ht hty] at hr; cases hr), fun _ => rfl⟩) hd
  exact ⟨n, x, fits_self hT ht (fun ty e => by rw [Ty.row, e]) h1 h3, h2⟩
theorem arg_struct (hT : TypesOK P T) (hl : closedT T l = true) (hm : t ∈ l) {fs : Array Field} (ht : P.underlying t = some (.struct fs)) (hv : Value.okWide P w r b0 t v) (hd : DataW.Trod enc P w base spare held t v d ps) :
    ∃ n cs, Fits T n t cs ∧ RepV (immG T) w (.agg cs) v := by
  obtain ⟨cs, rfl, _⟩ := okWide_struct ht hv
  obtain ⟨n, x, h1, h2, h3⟩ := arg_rep hT hl hm (fun ty hty => ⟨fun _ => ⟨cs, rfl⟩, fun hr => (by rw [Ty.row, row_of hT ht hty] at hr; cases hr)⟩) hd
  cases h2 with
  | agg ys us a b => exact ⟨n, ys, h1, .agg ys _ a b⟩
/-- What fits a type of one cell. -/
theorem fits_int {k : IntKind} {ty : Ty} (h : T t = some ty) (hd : ty.desc = .int k) {n : Nat} {xs : List V} (hf : Fits T n t xs) : ∃ i, xs = [.int k i] ∧ k.min ≤ i ∧ i ≤ k.max := by
  cases n with
  | zero => cases hf
  | succ n => unfold Fits at hf; rw [h] at hf; simp only [hd] at hf; exact hf
theorem fits_struct {fs : Array Field} {ty : Ty} (h : T t = some ty) (hd : ty.desc = .struct fs) {n : Nat} {xs : List V} (hf : Fits T n t xs) : ∃ m, n = m + 1 ∧ FitsFs (Fits T m) fs.toList xs := by
  cases n with
  | zero => cases hf
  | succ n => unfold Fits at hf; rw [h] at hf; simp only [hd] at hf; exact ⟨n, rfl, hf⟩
end
end Go.Proofs.YtjpmogajlnkihaaDoor.En

/- Chapter 27's rows: what the arguments read as, the package variables, the wrap, the world behind the door's own run. -/
namespace Go.Proofs.YtjpmogajlnkihaaDoor.En
open Go Go.Joins Go.ChangeShapes Go.WideShapes Go.ChangeAt Go.RowKit Go.Deep
set_option linter.unusedVariables false
theorem T_int : T 3 = some ty3 := by kernel_rfl
theorem T_ins : T 23 = some ty23 := by kernel_rfl
theorem ins_arg {n : Nat} {cs : List V} (h : Fits T n 23 cs) : ∃ i : In, cs = [.int .i64 i.op, .int .i64 i.a, .int .i64 i.b, .int .i64 i.c] := by
  obtain ⟨m, rfl, a, r1, rfl, ha, b, r2, rfl, hb, c, r3, rfl, hc, d, r4, rfl, hd, rfl⟩ := fits_struct T_ins rfl h
  obtain ⟨p, rfl, _⟩ := fits_int T_int rfl ha
  obtain ⟨q, rfl, _⟩ := fits_int T_int rfl hb
  obtain ⟨s, rfl, _⟩ := fits_int T_int rfl hc
  obtain ⟨v, rfl, _⟩ := fits_int T_int rfl hd
  exact ⟨⟨p, q, s, v⟩, rfl⟩
theorem int_arg {n : Nat} {x : V} (h : Fits T n 3 [x]) : ∃ i : Int, x = .int .i64 i ∧ -9223372036854775808 ≤ i ∧ i ≤ 9223372036854775807 := by
  obtain ⟨i, e, h1, h2⟩ := fits_int T_int rfl h
  injection e with e _
  exact ⟨i, e, h1, h2⟩
def argTys : List TypeId := [28, 23, 3, 29, 5, 9]
theorem argTys_ok : closedT T argTys = true := by kernel_rfl
/-! The package variables -/
theorem laid_at {P : Program} {w : World} {n : String} {d : DataW Unit} : ∀ {l : List (String × DataW Unit)} {ps : List MemPlace}, DataW.LaidVars P w l ps → (n, d) ∈ l →
    ∃ g t cs fuel p, P.globalNamed n = some g ∧ (P.globals[g]?).map (·.type) = some t ∧ w.var? P n = some cs ∧ DataW.trod (fun _ => ()) P w 0 (fun _ => true) false fuel t cs.toList = some (d, p)
  | [], ps, _, hm => by cases hm
  | (m, e) :: l, ps, h, hm => by
    obtain ⟨g, t, cs, fuel, p, q, h1, h2, h3, h4, h5, _⟩ := h
    rcases List.mem_cons.1 hm with hm | hm
    · injection hm with a b
      subst a b
      exact ⟨g, t, cs, fuel, p, h1, h2, h3, h4⟩
    · exact laid_at h5 hm
theorem tab_of {P : Program} {w : World} {name : String} {k : IntKind} {zs : List Int} {l : List (String × DataW Unit)} {g : Nat} {t e : TypeId} {n : Nat}
    (hg : P.globalNamed name = some g) (hty : (P.globals[g]?).map (·.type) = some t) (ht : P.underlying t = some (.array n e)) (he : P.underlying e = some (.int k)) (hce : P.cellsOf e = 1) (hct : P.cellsOf t = n)
    (h : laidMet P l w) (hm : (name, Lib.tabData k zs) ∈ l) : ∃ y f, w.heap[g]? = some (.cells (tabVs k zs) y f) := by
  obtain ⟨ps, hl, _⟩ := h
  obtain ⟨g', t', cs, fuel, p, h1, h2, h3, h4⟩ := laid_at hl hm
  obtain rfl := Option.some.inj (hg.symm.trans h1)
  obtain rfl := Option.some.inj (hty.symm.trans h2)
  have hc := Lib.cells_of_tab ht he hce hct h4
  unfold World.var? at h3
  rw [hg, Option.bind_some] at h3
  split at h3
  · rename_i cs' y f hh
    injection h3 with h3
    subst h3
    refine ⟨y, f, ?_⟩
    rw [hh]
    have : cs' = tabVs k zs := by
      unfold tabVs
      rw [← hc]
    rw [this]
  · cases h3
theorem space_data : Rows.laid_strings_asciiSpace (H := Unit) = Lib.tabData .u8 Lib.asciiSpaceTab := by kernel_rfl
theorem pow_data : Rows.laid_internal_strconv_uint64pow10 (H := Unit) = Lib.tabData .u64 Lib.pow10Tab := by kernel_rfl
theorem globs_of {w : World} (h : laidMetH Tryd.prog Rows.codeChecksRow.laid w) (hs : w.ShapedOpen Tryd.prog) : Globs w := by
  have h : laidMet Tryd.prog Rows.codeChecksRow.laid w := h
  have ms : ("strings.asciiSpace", Lib.tabData (H := Unit) .u8 Lib.asciiSpaceTab) ∈ Rows.codeChecksRow.laid := by
    rw [← space_data]
    simp [Rows.codeChecksRow]
  have mp : ("internal/strconv.uint64pow10", Lib.tabData (H := Unit) .u64 Lib.pow10Tab) ∈ Rows.codeChecksRow.laid := by
    rw [← pow_data]
    simp [Rows.codeChecksRow]
  obtain ⟨y1, f1, s1⟩ := tab_of (g := 0) (t := (Tryd.prog.globals[0]?).map (·.type) |>.getD 0) (e := 5) (n := 256) (by kernel_rfl) (by kernel_rfl) (by kernel_rfl) (by kernel_rfl) (by kernel_rfl) (by kernel_rfl) h ms
  obtain ⟨y2, f2, s2⟩ := tab_of (g := 3) (t := (Tryd.prog.globals[3]?).map (·.type) |>.getD 0) (e := (match Tryd.prog.underlying ((Tryd.prog.globals[3]?).map (·.type) |>.getD 0) with | some (.array _ e) => e | _ => 0)) (n := 20) (by kernel_rfl) (by kernel_rfl) (by kernel_rfl) (by kernel_rfl) (by kernel_rfl) (by kernel_rfl) h mp
  obtain ⟨m, hm⟩ := cell_of_shapedOpen_int (P := Tryd.prog) (g := 2) (t := 3) (zero := #[.int .i64 0]) hs (of_decide_eq_true (by kernel_rfl)) (by kernel_rfl) rfl (by kernel_rfl) (by kernel_rfl) Tryd.underlying3
  have hm : w.cell? ⟨2, 0, none⟩ = some (.int .i64 m) := hm
  intro b hb
  have hb : b = 0 ∨ b = 2 ∨ b = 3 := by simpa [globD] using hb
  rcases hb with rfl | rfl | rfl
  · exact ⟨_, s1, _, _, _, rfl, fun _ => rfl, fun e => absurd e (by decide), fun e => absurd e (by decide)⟩
  · unfold World.cell? at hm
    simp only at hm
    split at hm
    · rename_i vs t f hh
      exact ⟨_, hh, vs, t, f, rfl, fun e => absurd e (by decide), fun _ => ⟨m, by simpa using hm⟩, fun e => absurd e (by decide)⟩
    · cases hm
  · exact ⟨_, s2, _, _, _, rfl, fun e => absurd e (by decide), fun e => absurd e (by decide), fun _ => rfl⟩
/-! The wrap: with the listed variables and the world's shape -/
theorem handed_both {H : Type} {enc : TypeId × Value → H} {a : Assume} {C : Checked} {os : Os} {f : FuncId} {fn : Func} {s : ChangeSpec} {conds : List PathCond} {apart fresh handsOn again : Bool} {l : List (String × DataW Unit)}
    (own : ownKnob C.prog.godebug = none) (started : os.Started) (noInit : C.prog.inits.idxOf? f = none) (hfn : C.prog.funcs[f]? = some fn)
    (witness : ∃ (w : World) (tape : Tape) (i : Input), w.os = os ∧ (w.forCall tape i).Shaped C.prog ∧ i.vars = [] ∧ Input.okWide C.prog (w.forCall tape i) .any w.heap.size f i ∧
      ((s.pre enc C.prog fn conds apart (w.forCall tape i).memory i.args ∧ laidMetH C.prog l (w.forCall tape i).memory) ∧ sizedMet enc C.prog fn (OpenSpec.ofChange s) apart (w.forCall tape i).memory i.args) ∧ a.holds C.prog (lone (Frame.enter C.prog f i.args .normal) [] (w.forCall tape i)))
    (contract : ∀ (W : World) (base : Nat) (args : Array Value) (ds gs : List (DataW H)) (before : List MemPlace),
      (∀ (j : Nat) t v, fn.params[j]? = some t → args[j]? = some v → Value.okWide C.prog W .any base t v) →
      DataW.Whole enc C.prog fn.params.toList s.vars apart W args.toList ds gs before → laidMetH C.prog l W → W.ShapedOpen C.prog →
      Calls C.prog f args W fun e W' => ∃ v, e = .returned v ∧ s.post enc C.prog fn apart fresh handsOn again W args v W') :
    ReturnsInHanded a C os f .any (fun w args => (s.pre enc C.prog fn conds apart w args ∧ laidMetH C.prog l w) ∧ sizedMet enc C.prog fn (OpenSpec.ofChange s) apart w args) (s.post enc C.prog fn apart fresh handsOn again) := by
  refine returnsInHanded_of_calls own started noInit witness fun w tape i _ hsh _ hok hpre _ => ?_
  obtain ⟨_, _, _, fn', hfn', _, _, _, _, hval⟩ := hok
  obtain rfl : fn' = fn := Option.some.inj (hfn'.symm.trans hfn)
  obtain ⟨⟨⟨ds, gs, before, hw, _⟩, hl⟩, _⟩ := hpre
  refine (contract (w.forCall tape i) w.heap.size i.args ds gs before hval (DataW.Whole.of_heap (by rfl) hw) (hl.of_heap (by rfl)) hsh).mono fun e W' ⟨v, he, hp⟩ => ?_
  subst he
  exact ChangeSpec.post_blind hp
/-! The door's own world -/
theorem door_met (os : Os) (args : Array Value) : laidMetH Tryd.prog Rows.codeChecksRow.laid ((World.laidAll Tryd.prog os Rows.codeChecksRow.laid).forCall (fun _ _ => 0) ⟨#[], args, []⟩).memory := by
  rw [MakeChecks.laidMetH_plain _ _ _ (by kernel_rfl)]
  exact laidMet_laidAll _ (by kernel_rfl) (by kernel_rfl)
theorem door_shaped (os : Os) (args : Array Value) : ((World.laidAll Tryd.prog os Rows.codeChecksRow.laid).forCall (fun _ _ => 0) ⟨#[], args, []⟩).Shaped Tryd.prog :=
  World.shaped_of_ZipB (by kernel_rfl) (by kernel_rfl)
end Go.Proofs.YtjpmogajlnkihaaDoor.En

/- ref27.split: walked by hand: the row that it returns is the caller's own. -/
namespace Go.Proofs.YtjpmogajlnkihaaDoor.En
open Go Go.RowKit Go.Proofs.YtjpmogajlnkihaaDoor
set_option linter.unusedVariables false
theorem rd_new1 (w : World) (v : Value) (e : TypeId) : Rd (w.alloc (.cells #[v] e)) (some ⟨w.heap.size, 0, none⟩) 1 1 [v] :=
  ⟨rfl, Nat.le_refl _, by unfold maxLen <;> omega, fun k u hk => ⟨w.heap.size, 0, rfl, by
    have := cell_new w [v] e k
    rw [Nat.zero_add]
    exact this.trans hk⟩⟩
end Go.Proofs.YtjpmogajlnkihaaDoor.En

/- ref27.parts: walked by hand. -/
namespace Go.Proofs.YtjpmogajlnkihaaDoor.En
open Go Go.RowKit Go.Proofs.YtjpmogajlnkihaaDoor
set_option linter.unusedVariables false
/-- A row that reads so, all of it new since B. -/
def RdB (w : World) (B : Nat) (A : Option Addr) (n c : Nat) (vs : List Value) : Prop := Rd w A n c vs ∧ ∀ a, A = some a → B ≤ a.block
theorem RdB.below {w w' : World} {B : Nat} {A : Option Addr} {n c : Nat} {vs : List Value} (h : RdB w B A n c vs) (hb : Below w.heap.size w w') : RdB w' B A n c vs := ⟨h.1.below hb, h.2⟩
theorem RdB.cut1 {w : World} {B : Nat} {A : Option Addr} {n c : Nat} {vs : List Value} (h : RdB w B A n c vs) (hn : 1 ≤ n) : RdB w B (if c = 1 then A else A.map (·.add 1)) (n - 1) (c - 1) (vs.drop 1) :=
  ⟨h.1.cut hn, fun a ha => by
    split at ha
    · exact h.2 a ha
    · obtain ⟨a', h1, rfl⟩ := Option.map_eq_some_iff.1 ha
      exact h.2 a' h1⟩
end Go.Proofs.YtjpmogajlnkihaaDoor.En

/- ref27.parts as an entry of the engine. -/
namespace Go.Proofs.YtjpmogajlnkihaaDoor.En
open Go Go.RowKit Go.Proofs.YtjpmogajlnkihaaDoor
set_option linter.unusedVariables false
theorem sk_below {g : G} {w w' : World} (h : SzOK T g w) (hb : Below w.heap.size w w') : SzOK T g w' :=
  ⟨h.eq, fun b hm => by
    obtain ⟨h1, x, h2, h3⟩ := h.gl b hm
    exact ⟨h1, x, by rw [hb.block b (heap_lt h2)]; exact h2, h3⟩⟩
end Go.Proofs.YtjpmogajlnkihaaDoor.En


namespace Go.Proofs.YtjpmogajlnkihaaDoor.En
open Go Go.Shelf
def renS : Go.Shelf.Ren := ⟨fun k => match k with | 125 => 72 | 128 => 91 | 129 => 92 | 189 => 51 | 215 => 107 | 216 => 88 | 257 => 71 | 294 => 82 | 295 => 83 | 296 => 84 | 297 => 85 | 298 => 86 | 299 => 87 | 300 => 89 | 301 => 90 | 328 => 102 | 329 => 103 | 330 => 104 | 331 => 105 | 332 => 106 | 343 => 119 | x => x,
  fun k => match k with | 0 => 0 | 3 => 3 | 4 => 4 | 5 => 5 | 9 => 9 | 28 => 54 | 46 => 66 | 51 => 109 | 53 => 132 | 131 => 106 | 182 => 123 | 183 => 124 | 218 => 141 | 222 => 145 | 228 => 166 | 229 => 61 | x => x,
  fun k => match k with | x => x⟩
def renC : Go.Shelf.Ren := ⟨fun k => match k with | 20 => 52 | x => x,
  fun k => match k with | 0 => 0 | 3 => 3 | 4 => 4 | 22 => 54 | x => x,
  fun k => match k with | x => x⟩
end Go.Proofs.YtjpmogajlnkihaaDoor.En

/- slices.Sort and slices.Compact at []int, over a row of the caller's own. -/
namespace Go.Proofs.YtjpmogajlnkihaaDoor.En
open Go Go.RowKit Go.Proofs.YtjpmogajlnkihaaDoor Go.Sort Go.Shelf
set_option linter.unusedVariables false
theorem lays189 : Lays.n189 Tryd.prog renS := by
  constructor <;> first | kernel_rfl | (intro w; kernel_rfl)
theorem lays20 : Lays2.n20 Tryd.prog renC := by
  constructor <;> first | kernel_rfl | (intro w; kernel_rfl)
abbrev iv (z : Int) : Value := .int .i64 z
/-- A row whose first cells are set anew. -/
theorem own_put {w : World} {B : Nat} {g n c : Nat} {xs : List Value} (h : Own w B 3 (some ⟨g, 0, none⟩) n c xs) (d : Array Int) (hd : d.size = n) (m : Nat) (os : Array Obj) :
    Own (grow (putRow (Value.int .i64) (Sort.ahead w m) g 0 d) os) B 3 (some ⟨g, 0, none⟩) n c (d.toList.map iv) ∧ ∀ N, N ≤ w.heap.size → N ≤ g → Below N w (grow (putRow (Value.int .i64) (Sort.ahead w m) g 0 d) os) := by
  rcases h.2 with ⟨hv, _⟩ | ⟨g', cap, cur, hv, hb, hg, hnc, hcm, hcs, htk⟩
  · cases hv
  · injection hv with h1 h2 h3
    injection h1 with h1
    injection h1 with h1
    subst h1 h3
    have hlt := heap_lt hg
    have hh : (grow (putRow (Value.int .i64) (Sort.ahead w m) g 0 d) os).heap[g]? = some (.cells (putCells (Value.int .i64) 0 d cur) 3 (0, 0)) := by
      rw [heap_grow_old _ _ (by rw [size_putRow]; exact hlt)]
      show (w.heap.modify g (onCells _))[g]? = _
      rw [Array.getElem?_modify, if_pos rfl, hg]
      rfl
    have hsz : (putCells (Value.int .i64) 0 d cur).size = cur.size := by unfold putCells; rw [Array.size_mapIdx]
    refine ⟨⟨by simpa using hd, .inr ⟨g, c, _, rfl, hb, hh, hnc, hcm, by rw [hsz]; exact hcs, ?_⟩⟩, fun N h1 h2 => ⟨rfl, rfl, rfl, by rw [size_grow, size_putRow]; show w.heap.size ≤ w.heap.size + _; omega, fun b hb => ?_⟩⟩
    · apply List.ext_getElem?
      intro i
      rw [List.getElem?_take, Array.getElem?_toList]
      unfold putCells
      rw [Array.getElem?_mapIdx]
      by_cases hi : i < n
      · rw [if_pos (by omega)]
        have hc : i < cur.size := by omega
        have hi' : i < d.toList.length := by simpa [hd] using hi
        rw [Array.getElem?_eq_getElem hc, Option.map_some, if_pos ⟨Nat.zero_le _, by omega⟩, List.getElem?_map, List.getElem?_eq_getElem hi']
        simp [getElem!_pos, hd, hi]
      · rw [if_neg (by omega), List.getElem?_eq_none (by simp [hd]; omega)]
    · rw [heap_grow_old _ _ (by rw [size_putRow]; show b < w.heap.size; omega)]
      show (w.heap.modify g (onCells _))[b]? = _
      rw [Array.getElem?_modify, if_neg (by omega)]
theorem holds_own {w : World} {B : Nat} {g n c : Nat} {l : List Int} (h : Own w B 3 (some ⟨g, 0, none⟩) n c (l.map iv)) : Holds (Value.int .i64) w g 0 l.toArray := by
  intro j hj
  have hj' : j < l.length := by simpa using hj
  have hr := h.rd.at_ j (iv l[j]) (by rw [List.getElem?_map, List.getElem?_eq_getElem hj']; rfl)
  obtain ⟨b, off, e, hc⟩ := hr
  injection e with e
  injection e with e1 e2
  subst e1 e2
  refine ⟨by rw [hc]; simp [getElem!_pos, hj'], ?_⟩
  rcases h.2 with ⟨hv, _⟩ | ⟨g', cap, cur, hv, hb, hg, _⟩
  · cases hv
  · injection hv with h1
    injection h1 with h1
    injection h1 with h1
    subst h1
    simp [World.frozen?, hg]
def sortQ (l : List Int) : List Int := l.mergeSort fun x y => decide (x ≤ y)
theorem sort_walk {w : World} {B : Nat} {A : Option Addr} {n c : Nat} {l : List Int} (hB : B ≤ w.heap.size) (h : Own w B 3 A n c (l.map iv)) (hn : n ≤ 1000000) :
    Calls Tryd.prog 51 #[.slice A n c] w fun e w' => e = .returned (.tuple #[]) ∧ Own w' B 3 A n c ((sortQ l).map iv) ∧ Below B w w' := by
  have hl : l.length = n := by have := h.1; simpa using this
  by_cases h0 : n = 0
  · subst h0
    obtain rfl : l = [] := List.eq_nil_of_length_eq_zero hl
    refine (Any.slices_Sort_int_none lays189 A c w).mono ?_
    rintro e w' ⟨rfl, rfl⟩
    rw [show sortQ [] = [] by simp [sortQ]]
    exact ⟨rfl, h, Below.refl _ _⟩
  · obtain ⟨g, rfl⟩ : ∃ g, A = some ⟨g, 0, none⟩ := by
      rcases h.2 with ⟨hv, h1⟩ | ⟨g, cap, cur, hv, _⟩
      · exact absurd h1 h0
      · injection hv with h1; exact ⟨g, h1⟩
    have hg : g < w.heap.size := (h.lt g rfl).2
    have hgB : B ≤ g := (h.lt g rfl).1
    subst hl
    refine (Any.slices_Sort_int lays189 g 0 c l w (holds_own h) hg (by omega)).mono ?_
    rintro e w' ⟨rfl, m, os, rfl⟩
    have hs : (sortQ l).length = l.length := List.length_mergeSort l
    obtain ⟨q1, q2⟩ := own_put h (sortQ l).toArray (by simpa using hs) m os
    refine ⟨rfl, ?_, q2 B hB hgB⟩
    have q3 : Own (grow (putRow (Value.int .i64) (Sort.ahead w m) g 0 (sortQ l).toArray) os) B 3 (some ⟨g, 0, none⟩) l.length c ((sortQ l).map iv) := by simpa using q1
    exact q3
theorem compact_walk {w : World} {B : Nat} {A : Option Addr} {n c : Nat} {l : List Int} (hB : B ≤ w.heap.size) (h : Own w B 3 A n c (l.map iv)) (hn : n ≤ 1000000) :
    Calls Tryd.prog 52 #[.slice A n c] w fun e w' => e = .returned (.slice A (Lib.compact l).length c) ∧ (Rd w' A (Lib.compact l).length c ((Lib.compact l).map iv) ∧ ∀ a, A = some a → B ≤ a.block) ∧ Below B w w' := by
  have hl : l.length = n := by have := h.1; simpa using this
  by_cases h0 : n = 0
  · subst h0
    obtain rfl : l = [] := List.eq_nil_of_length_eq_zero hl
    refine (Any.slices_Compact_int_empty lays20 A c w).mono ?_
    rintro e w' ⟨rfl, rfl⟩
    exact ⟨rfl, ⟨h.rd, fun a ha => by subst ha; exact (h.lt a.block rfl).1⟩, Below.refl _ _⟩
  · obtain ⟨g, rfl⟩ : ∃ g, A = some ⟨g, 0, none⟩ := by
      rcases h.2 with ⟨hv, h1⟩ | ⟨g, cap, cur, hv, _⟩
      · exact absurd h1 h0
      · injection hv with h1; exact ⟨g, h1⟩
    have hgB : B ≤ g := (h.lt g rfl).1
    subst hl
    refine (Any.slices_Compact_int lays20 g 0 c l w (holds_own h) (by omega) h.rd.cap).mono ?_
    rintro e w' ⟨rfl, m, rfl⟩
    have hle := Lib.compact_length_le l
    obtain ⟨q1, q2⟩ := own_put h (Lib.compact l ++ List.replicate (l.length - (Lib.compact l).length) 0).toArray (by simp; omega) m #[]
    rw [grow_empty] at q1 q2
    have q3 := q1.rd.take hle
    refine ⟨rfl, ⟨?_, fun a ha => by injection ha with ha; subst ha; exact hgB⟩, q2 B hB hgB⟩
    simpa using q3
end Go.Proofs.YtjpmogajlnkihaaDoor.En

/- code.Next: walked by hand. -/
namespace Go.Proofs.YtjpmogajlnkihaaDoor.En
open Go Go.RowKit Go.Proofs.YtjpmogajlnkihaaDoor
set_option linter.unusedVariables false
def outQ (op a at_ : Int) : List Int := (if fA op = 4 then [a] else []) ++ (if op = 21 ∨ op = 49 ∨ op = 50 then [] else [at_ + 1])
def nextQ (i : In) (at_ : Int) : List Int := if chk i ≠ 0 ∨ at_ < 0 ∨ 256 ≤ at_ then [] else Lib.compact (sortQ (outQ i.op i.a at_))
def I64 (n : Int) : Prop := -9223372036854775808 ≤ n ∧ n ≤ 9223372036854775807
theorem rep_i64 {g : G} {w : World} {n : Int} (h : I64 n) : RepV g w (.int .i64 n) (.int .i64 n) := .int _ _ (by show (-9223372036854775808 : Int) ≤ _ ∧ _ ≤ (9223372036854775807 : Int); exact h)
theorem check_walk {g : G} {w : World} (h : SzOK T g w) (i : In) (ho : I64 i.op) (ha : I64 i.a) (hb : I64 i.b) (hc : I64 i.c) :
    Calls Tryd.prog 12 #[.agg #[.int .i64 i.op, .int .i64 i.a, .int .i64 i.b, .int .i64 i.c]] w fun e w' => e = .returned (.int .i64 (chk i)) ∧ Below w.heap.size w w' := by
  refine (p_cCheck 11 _ _ _ _ _ (cCheck_eq 11 (by decide) i) (⟨0, fun _ _ => False⟩ : Env) g w [.agg #[.int .i64 i.op, .int .i64 i.a, .int .i64 i.b, .int .i64 i.c]] h ⟨rfl, fun k y hk => ?_⟩).mono ?_
  · rcases k with _ | k
    · simp at hk; subst hk
      refine .agg _ _ rfl fun k y hk => ?_
      rcases k with _ | _ | _ | _ | k
      · simp at hk; subst hk; exact .v _ _ _ (rep_i64 ho) trivial
      · simp at hk; subst hk; exact .v _ _ _ (rep_i64 ha) trivial
      · simp at hk; subst hk; exact .v _ _ _ (rep_i64 hb) trivial
      · simp at hk; subst hk; exact .v _ _ _ (rep_i64 hc) trivial
      · simp at hk
    · simp at hk
  · rintro e w' ⟨us', g', rfl, hr, ht⟩
    obtain ⟨hl, hr⟩ := hr (⟨0, fun _ _ => False⟩ : Env)
    match us', hl with
    | [a], _ =>
    have ha := hr 0 _ rfl
    simp only [List.getD_cons_zero] at ha
    cases ha with | v _ _ _ ha _ =>
      cases ha
      exact ⟨rfl, ⟨ht.grows.os, ht.grows.tape, ht.grows.output, ht.grows.size, ht.grows.old⟩⟩
theorem formOf_walk {g : G} {w : World} (h : SzOK T g w) {op : Int} (h0 : 0 ≤ op) (h1 : op < 54) :
    Calls Tryd.prog 33 #[.int .i64 op] w fun e w' => e = .returned (.agg #[.int .i64 (fA op), .int .i64 (fB op), .int .i64 (fC op)]) ∧ Below w.heap.size w w' := by
  refine (p_formOf 0 op _ _ _ (formOf_eq 0 h0 h1) (⟨0, fun _ _ => False⟩ : Env) g w [.int .i64 op] h ⟨rfl, fun k y hk => ?_⟩).mono ?_
  · rcases k with _ | k
    · simp at hk; subst hk
      exact .v _ _ _ (rep_i64 ⟨by omega, by omega⟩) trivial
    · simp at hk
  · rintro e w' ⟨us', g', rfl, hr, ht⟩
    obtain ⟨hl, hr⟩ := hr (⟨0, fun _ _ => False⟩ : Env)
    match us', hl with
    | [a], _ =>
    have ha := hr 0 _ rfl
    simp only [List.getD_cons_zero] at ha
    cases ha with | agg _ us2 hn2 hr2 =>
    obtain ⟨us2⟩ := us2
    match us2, hn2 with
    | [a, b, c], _ =>
    have ha := hr2 0 _ rfl
    have hb := hr2 1 _ rfl
    have hc := hr2 2 _ rfl
    simp at ha hb hc
    cases ha with | v _ _ _ ha _ => cases hb with | v _ _ _ hb _ => cases hc with | v _ _ _ hc _ =>
      cases ha; cases hb; cases hc
      exact ⟨rfl, ⟨ht.grows.os, ht.grows.tape, ht.grows.output, ht.grows.size, ht.grows.old⟩⟩
theorem jump_range {op : Int} (h0 : 0 ≤ op) (h1 : op < 54) (h : fA op = 4) : 21 ≤ op ∧ op ≤ 32 := by
  have := each54 (P := fun op => fA op = 4 → 21 ≤ op ∧ op ≤ 32) (by decide +kernel) h0 h1
  exact this h
theorem infoInt : (Tryd.prog.info? 3).map (fun i => (i.zero, i.size, i.bytes)) = some (some (.int .i64 0), 1, 8) := by kernel_rfl
theorem idx_form (x y z : Value) (w : World) : Sem.run Tryd.prog (Instr.index 59 (.agg #[x, y, z]) (.int .i64 0)) w = .ok x w := by kernel_rfl
attribute [local go_sem] idx_form in
set_option maxHeartbeats 4000000 in
theorem next_walk {g : G} {w : World} (h : SzOK T g w) (i : In) (at_ : Int) (ho : I64 i.op) (ha : I64 i.a) (hb : I64 i.b) (hc : I64 i.c) (hat : I64 at_) :
    Calls Tryd.prog 30 #[.agg #[.int .i64 i.op, .int .i64 i.a, .int .i64 i.b, .int .i64 i.c], .int .i64 at_] w fun e w' => ∃ A n cp, e = .returned (.slice A n cp) ∧ (Rd w' A n cp ((nextQ i at_).map iv) ∧ ∀ a, A = some a → w.heap.size ≤ a.block) ∧ Below w.heap.size w w' := by
  obtain ⟨i0, hi0, hz0, hz1, hz2⟩ := info_parts infoInt
  have HI := Lib.hid (And.intro hi0 (And.intro hz0 (And.intro hz1 hz2)))
  clear hi0 hz0 hz1 hz2
  obtain ⟨op, a, b, c⟩ := i
  have hcw : ∀ w', Below w.heap.size w w' → Calls Tryd.prog 12 #[.agg #[.int .i64 op, .int .i64 a, .int .i64 b, .int .i64 c]] w' fun e w'' => e = .returned (.int .i64 (chk ⟨op, a, b, c⟩)) ∧ Below w'.heap.size w' w'' := fun w' hw' => check_walk (sk_below h hw') ⟨op, a, b, c⟩ ho ha hb hc
  have hfw : ∀ w', Below w.heap.size w w' → 0 ≤ op → op < 54 → Calls Tryd.prog 33 #[.int .i64 op] w' fun e w'' => e = .returned (.agg #[.int .i64 (fA op), .int .i64 (fB op), .int .i64 (fC op)]) ∧ Below w'.heap.size w' w'' := fun w' hw' h0 h1 => formOf_walk (sk_below h hw') h0 h1
  obtain ⟨X, hX⟩ : ∃ X, fA op = X := ⟨_, rfl⟩
  obtain ⟨Y, hY⟩ : ∃ Y, fB op = Y := ⟨_, rfl⟩
  obtain ⟨Z, hZ⟩ : ∃ Z, fC op = Z := ⟨_, rfl⟩
  rw [hX, hY, hZ] at hfw
  have HC := Lib.hid (And.intro hcw hfw)
  have HX := Lib.hid hX
  clear hcw hfw h hX hY hZ
  unfold I64 at ho ha hat
  simp only at ho ha
  have none_ : ∀ w' : World, nextQ ⟨op, a, b, c⟩ at_ = [] → Below w.heap.size w w' → ∃ A n cp, Ending.returned (Value.slice none 0 0) = .returned (.slice A n cp) ∧ (Rd w' A n cp ((nextQ ⟨op, a, b, c⟩ at_).map iv) ∧ ∀ a, A = some a → w.heap.size ≤ a.block) ∧ Below w.heap.size w w' := by
    intro w' hq hb
    rw [hq]
    exact ⟨none, 0, 0, rfl, ⟨Rd.nil, fun a ha => by cases ha⟩, hb⟩
  have HN := Lib.hid none_
  clear none_
  go_enter Tryd.func30, Tryd.ntmps30
  go_wp2_with fail
  refine (HC.out.1 _ ?_).mono ?_
  · exact (Below.refl _ _).alloc (Nat.le_refl _) _
  rintro e w1 ⟨rfl, hb1⟩
  have hB1 : Below w.heap.size w w1 := ((Below.refl _ _).alloc (Nat.le_refl _) _).trans (hb1.mono (by simp))
  have hh1 : w1.heap[w.heap.size]? = some (.cells #[.int .i64 op, .int .i64 a, .int .i64 b, .int .i64 c] 23 (0, 0)) := by
    rw [hb1.block _ (by simp)]
    exact heap_alloc_new w _
  have c0 : w1.cell? ⟨w.heap.size, 0, none⟩ = some (.int .i64 op) := by rw [cell_of_row w1 _ _ _ _ _ hh1]; rfl
  have c1 : w1.cell? ⟨w.heap.size, 1, none⟩ = some (.int .i64 a) := by rw [cell_of_row w1 _ _ _ _ _ hh1]; rfl
  have H1 := Lib.hid (And.intro hB1 hh1)
  clear hB1 hb1 hh1
  by_cases hc : chk ⟨op, a, b, c⟩ = 0
  case neg =>
    have hq : nextQ ⟨op, a, b, c⟩ at_ = [] := by unfold nextQ; rw [if_pos (Or.inl hc)]
    have HQ := Lib.hid hq
    have hce := Lib.hid hc
    have f0 : (chk ⟨op, a, b, c⟩ == 0) = false := by simpa using hc
    clear hq
    go_wp2
    go_ret
    exact HN.out w1 HQ.out H1.out.1
  have hr := chk_range hc
  simp only at hr
  by_cases hb0 : at_ < 0 ∨ 256 ≤ at_
  case pos =>
    have hq : nextQ ⟨op, a, b, c⟩ at_ = [] := by unfold nextQ; rw [if_pos (Or.inr hb0)]
    have HQ := Lib.hid hq
    rw [hc]
    clear hq
    rcases Decidable.em (at_ < 0) with hm | hm
    · go_wp2
      go_ret
      exact HN.out w1 HQ.out H1.out.1
    · have hm2 : 256 ≤ at_ := by omega
      go_wp2
      go_ret
      exact HN.out w1 HQ.out H1.out.1
  have hq : nextQ ⟨op, a, b, c⟩ at_ = Lib.compact (sortQ (outQ op a at_)) := by unfold nextQ; rw [if_neg (by omega)]
  have HQ := Lib.hid hq
  rw [hc]
  have hl0 : 0 ≤ at_ := by omega
  have hl1 : at_ ≤ 255 := by omega
  clear hq hb0 hc
  go_wp2_with fail
  refine (HC.out.2 _ H1.out.1 hr.1 hr.2).mono ?_
  rintro e w2 ⟨rfl, hb2⟩
  have hB2 : Below w.heap.size w w2 := H1.out.1.trans (hb2.mono H1.out.1.size)
  have hh2 : w2.heap[w.heap.size]? = some (.cells #[.int .i64 op, .int .i64 a, .int .i64 b, .int .i64 c] 23 (0, 0)) := by
    rw [hb2.block _ (heap_lt H1.out.2)]
    exact H1.out.2
  have d0 : w2.cell? ⟨w.heap.size, 0, none⟩ = some (.int .i64 op) := by rw [cell_of_row w2 _ _ _ _ _ hh2]; rfl
  have d1 : w2.cell? ⟨w.heap.size, 1, none⟩ = some (.int .i64 a) := by rw [cell_of_row w2 _ _ _ _ _ hh2]; rfl
  have H2 := Lib.hid (And.intro hB2 hh2)
  have hsz2 : w.heap.size < w2.heap.size := heap_lt hh2
  clear hB2 hb2 hh2 c0 c1
  have hB2' : ∀ o, Below w.heap.size w (w2.alloc o) := fun o => H2.out.1.alloc H2.out.1.size o
  by_cases h4 : X = 4
  · have f4 : (X == 4) = true := by simpa using h4
    have hjr : 21 ≤ op ∧ op ≤ 32 := jump_range hr.1 hr.2 (HX.out.trans h4)
    go_wp2_with (at_builtin; refine wpList_append_rd _ rfl (.tmp 22) (.tmp 25) 54 rfl w.heap.size 3 i0 _ 8 Tryd.underlying54 HI.out.1 HI.out.2.1 HI.out.2.2.1 HI.out.2.2.2 rfl none 0 0 _ rfl (Own.nil _ _) (some ⟨w2.heap.size, 0, none⟩) 1 1 _ rfl (rd_new1 _ _ _) ?_ (by omega) (by omega) ?_ ?_)
    · intro u hu; simp at hu; subst hu; rfl
    · simp; omega
    intro A3 c3 w3 hown3 hg3 _
    have hb3 : Below w.heap.size w w3 := (hB2' _).grown hg3 (hB2' _).size (fun k hk => by cases hk)
    have ho3 : Own w3 w.heap.size 3 A3 1 c3 ([a].map iv) := hown3
    have hh3 : w3.heap[w.heap.size]? = some (.cells #[.int .i64 op, .int .i64 a, .int .i64 b, .int .i64 c] 23 (0, 0)) := by
      have hbl := (Below.refl w2.heap.size (w2.alloc (.cells #[.int .i64 a] 3))).grown hg3 (by simp) (fun k hk => by cases hk)
      rw [hbl.block _ hsz2, heap_alloc_old w2 _ hsz2]
      exact H2.out.2
    have hsz3 : w.heap.size < w3.heap.size := heap_lt hh3
    have e0 : w3.cell? ⟨w.heap.size, 0, none⟩ = some (.int .i64 op) := by rw [cell_of_row w3 _ _ _ _ _ hh3]; rfl
    have H3 := Lib.hid (And.intro hb3 ho3)
    clear hb3 ho3 hown3 hg3 hh3 d0 d1
    by_cases h21 : op = 21
    · have g1 : (op != 21) = false := by simpa using h21
      have hout : outQ op a at_ = [a] := by unfold outQ; rw [HX.out, if_pos h4, if_pos (Or.inl h21)]; rfl
      have HO := Lib.hid (And.intro H3.out.2 H3.out.1)
      go_wp2_with fail
      refine (sort_walk HO.out.2.size HO.out.1 (by omega)).mono ?_
      rintro e w5 ⟨rfl, hown5, hb5⟩
      have HO5 := Lib.hid (And.intro hown5 (HO.out.2.trans hb5))
      clear hown5 hb5
      go_wp2_with fail
      refine (compact_walk HO5.out.2.size HO5.out.1 (by omega)).mono ?_
      rintro e w6 ⟨rfl, hrd6, hb6⟩
      have HO6 := Lib.hid (And.intro hrd6 (HO5.out.2.trans hb6))
      clear hrd6 hb6
      go_wp2
      go_ret
      refine ⟨_, _, _, rfl, ?_, HO6.out.2⟩
      rw [HQ.out, hout]
      exact HO6.out.1
    · have g1 : (op != 21) = true := by simpa using h21
      have g2 : (op != 49) = true := by simp; omega
      have g3 : (op != 50) = true := by simp; omega
      have hout : outQ op a at_ = [a, at_ + 1] := by unfold outQ; rw [HX.out, if_pos h4, if_neg (by omega)]; rfl
      have hB3' : ∀ o, Below w.heap.size w (w3.alloc o) := fun o => H3.out.1.alloc H3.out.1.size o
      go_wp2_with (at_builtin; refine wpList_append_rd _ rfl (.tmp 40) (.tmp 43) 54 rfl w.heap.size 3 i0 _ 8 Tryd.underlying54 HI.out.1 HI.out.2.1 HI.out.2.2.1 HI.out.2.2.2 rfl A3 1 c3 _ rfl (H3.out.2.below ((Below.refl _ _).alloc (Nat.le_refl _) _)) (some ⟨w3.heap.size, 0, none⟩) 1 1 _ rfl (rd_new1 _ _ _) ?_ (by omega) (by omega) ?_ ?_)
      · intro u hu; simp at hu; subst hu; rfl
      · simp; omega
      intro A4 c4 w4 hown4 hg4 _
      have hb4 : Below w.heap.size w w4 := (hB3' _).grown hg4 (hB3' _).size H3.out.2.block
      have ho4 : Own w4 w.heap.size 3 A4 2 c4 ([a, at_ + 1].map iv) := hown4
      clear hown4 hg4
      have HO := Lib.hid (And.intro ho4 hb4)
      go_wp2_with fail
      refine (sort_walk HO.out.2.size HO.out.1 (by omega)).mono ?_
      rintro e w5 ⟨rfl, hown5, hb5⟩
      have HO5 := Lib.hid (And.intro hown5 (HO.out.2.trans hb5))
      clear hown5 hb5
      go_wp2_with fail
      refine (compact_walk HO5.out.2.size HO5.out.1 (by omega)).mono ?_
      rintro e w6 ⟨rfl, hrd6, hb6⟩
      have HO6 := Lib.hid (And.intro hrd6 (HO5.out.2.trans hb6))
      clear hrd6 hb6
      go_wp2
      go_ret
      refine ⟨_, _, _, rfl, ?_, HO6.out.2⟩
      rw [HQ.out, hout]
      exact HO6.out.1
  · have f4 : (X == 4) = false := by simpa using h4
    by_cases hj : op = 21 ∨ op = 49 ∨ op = 50
    · have hout : outQ op a at_ = [] := by unfold outQ; rw [HX.out, if_neg h4, if_pos hj]; rfl
      have ho4 : Own w2 w.heap.size 3 none 0 0 (([] : List Int).map iv) := Own.nil _ _
      have h21 : op ≠ 21 := fun e => h4 (by rw [← HX.out, e]; rfl)
      have g1 : (op != 21) = true := by simpa using h21
      by_cases h49 : op = 49
      · have g2 : (op != 49) = false := by simpa using h49
        have HO := Lib.hid (And.intro ho4 H2.out.1)
        go_wp2_with fail
        refine (sort_walk HO.out.2.size HO.out.1 (by omega)).mono ?_
        rintro e w5 ⟨rfl, hown5, hb5⟩
        have HO5 := Lib.hid (And.intro hown5 (HO.out.2.trans hb5))
        clear hown5 hb5
        go_wp2_with fail
        refine (compact_walk HO5.out.2.size HO5.out.1 (by omega)).mono ?_
        rintro e w6 ⟨rfl, hrd6, hb6⟩
        have HO6 := Lib.hid (And.intro hrd6 (HO5.out.2.trans hb6))
        clear hrd6 hb6
        go_wp2
        go_ret
        refine ⟨_, _, _, rfl, ?_, HO6.out.2⟩
        rw [HQ.out, hout]
        exact HO6.out.1
      · have g2 : (op != 49) = true := by simpa using h49
        have h50 : op = 50 := by omega
        have g3 : (op != 50) = false := by simpa using h50
        have HO := Lib.hid (And.intro ho4 H2.out.1)
        go_wp2_with fail
        refine (sort_walk HO.out.2.size HO.out.1 (by omega)).mono ?_
        rintro e w5 ⟨rfl, hown5, hb5⟩
        have HO5 := Lib.hid (And.intro hown5 (HO.out.2.trans hb5))
        clear hown5 hb5
        go_wp2_with fail
        refine (compact_walk HO5.out.2.size HO5.out.1 (by omega)).mono ?_
        rintro e w6 ⟨rfl, hrd6, hb6⟩
        have HO6 := Lib.hid (And.intro hrd6 (HO5.out.2.trans hb6))
        clear hrd6 hb6
        go_wp2
        go_ret
        refine ⟨_, _, _, rfl, ?_, HO6.out.2⟩
        rw [HQ.out, hout]
        exact HO6.out.1
    · have g1 : (op != 21) = true := by simp; omega
      have g2 : (op != 49) = true := by simp; omega
      have g3 : (op != 50) = true := by simp; omega
      have hout : outQ op a at_ = [at_ + 1] := by unfold outQ; rw [HX.out, if_neg h4, if_neg hj]; rfl
      go_wp2_with (at_builtin; refine wpList_append_rd _ rfl (.tmp 40) (.tmp 43) 54 rfl w.heap.size 3 i0 _ 8 Tryd.underlying54 HI.out.1 HI.out.2.1 HI.out.2.2.1 HI.out.2.2.2 rfl none 0 0 _ rfl (Own.nil _ _) (some ⟨w2.heap.size, 0, none⟩) 1 1 _ rfl (rd_new1 _ _ _) ?_ (by omega) (by omega) ?_ ?_)
      · intro u hu; simp at hu; subst hu; rfl
      · simp; omega
      intro A4 c4 w4 hown4 hg4 _
      have hb4 : Below w.heap.size w w4 := (hB2' _).grown hg4 (hB2' _).size (fun k hk => by cases hk)
      have ho4 : Own w4 w.heap.size 3 A4 1 c4 ([at_ + 1].map iv) := hown4
      clear hown4 hg4
      have HO := Lib.hid (And.intro ho4 hb4)
      go_wp2_with fail
      refine (sort_walk HO.out.2.size HO.out.1 (by omega)).mono ?_
      rintro e w5 ⟨rfl, hown5, hb5⟩
      have HO5 := Lib.hid (And.intro hown5 (HO.out.2.trans hb5))
      clear hown5 hb5
      go_wp2_with fail
      refine (compact_walk HO5.out.2.size HO5.out.1 (by omega)).mono ?_
      rintro e w6 ⟨rfl, hrd6, hb6⟩
      have HO6 := Lib.hid (And.intro hrd6 (HO5.out.2.trans hb6))
      clear hrd6 hb6
      go_wp2
      go_ret
      refine ⟨_, _, _, rfl, ?_, HO6.out.2⟩
      rw [HQ.out, hout]
      exact HO6.out.1
end Go.Proofs.YtjpmogajlnkihaaDoor.En

/- code.Next as an entry of the engine. -/
namespace Go.Proofs.YtjpmogajlnkihaaDoor.En
open Go Go.RowKit Go.Proofs.YtjpmogajlnkihaaDoor
set_option linter.unusedVariables false
theorem sort0 : sortQ [] = [] := by simp [sortQ]
theorem sort1 (x : Int) : sortQ [x] = [x] := by simp [sortQ]
theorem sort2 (x y : Int) : sortQ [x, y] = if x ≤ y then [x, y] else [y, x] := by
  unfold sortQ
  simp only [List.mergeSort, List.MergeSort.Internal.splitInTwo]
  by_cases h : x ≤ y
  · simp [List.merge, h]
  · simp [List.merge, h]
theorem comp0 : Lib.compact ([] : List Int) = [] := by simp [Lib.compact, Lib.compactUpTo]
theorem comp1 (x : Int) : Lib.compact [x] = [x] := by simp [Lib.compact, Lib.compactUpTo, Lib.keeps, List.range_succ]
theorem comp2 (x y : Int) : Lib.compact [x, y] = if x = y then [x] else [x, y] := by
  by_cases h : x = y
  · subst h; simp [Lib.compact, Lib.compactUpTo, Lib.keeps, List.range_succ]
  · have h' : ¬ y = x := fun e => h e.symm
    simp [Lib.compact, Lib.compactUpTo, Lib.keeps, List.range_succ, h, h']
def twoQ (a n : Int) : List Int := if a = n then [n] else if a < n then [a, n] else [n, a]
theorem two_eq (a n : Int) : Lib.compact (sortQ [a, n]) = twoQ a n := by
  unfold twoQ
  rw [sort2]
  by_cases h : a = n
  · subst h
    rw [if_pos (Int.le_refl _), comp2, if_pos rfl, if_pos rfl]
  · rw [if_neg h]
    by_cases h2 : a ≤ n
    · rw [if_pos h2, comp2, if_neg h, if_pos (by omega)]
    · rw [if_neg h2, comp2, if_neg (by omega), if_neg (by omega)]
theorem next_mem {i : In} {n : Int} (ha : I64 i.a) (hn : I64 n) : ∀ z ∈ nextQ i n, I64 z := by
  unfold nextQ
  split
  · intro z hz; cases hz
  · rename_i hc
    have h1 : I64 (n + 1) := by unfold I64 at *; omega
    unfold outQ
    by_cases h4 : fA i.op = 4 <;> by_cases hj : i.op = 21 ∨ i.op = 49 ∨ i.op = 50
    · rw [if_pos h4, if_pos hj, List.append_nil, sort1, comp1]
      intro z hz; simp at hz; subst hz; exact ha
    · rw [if_pos h4, if_neg hj]
      show ∀ z ∈ Lib.compact (sortQ [i.a, n + 1]), I64 z
      rw [two_eq]
      unfold twoQ
      intro z hz
      split at hz
      · simp at hz; subst hz; exact h1
      · split at hz
        · simp at hz
          rcases hz with rfl | rfl
          · exact ha
          · exact h1
        · simp at hz
          rcases hz with rfl | rfl
          · exact h1
          · exact ha
    · rw [if_neg h4, if_pos hj, List.append_nil, sort0, comp0]
      intro z hz; cases hz
    · rw [if_neg h4, if_neg hj, List.nil_append, sort1, comp1]
      intro z hz; simp at hz; subst hz; exact h1
theorem int_rep {g : G} {w w' : World} (hg : g.sz 3 = 1) {ls : List Int} {A : Option Addr} {n c : Nat} (h : Rd w' A n c (ls.map iv)) (h2 : ∀ a, A = some a → w.heap.size ≤ a.block) (hl : ∀ l ∈ ls, I64 l) :
    RepV (newG g w) w' (.sl 3 (ls.map (V.int .i64))) (.slice A n c) := by
  have hf : (ls.map (V.int .i64)).flatMap V.cells = ls.map (V.int .i64) := by
    clear h hl
    induction ls with
    | nil => rfl
    | cons l ls ih => simp only [List.map_cons, List.flatMap_cons, ih]; rfl
  have hn : ls.length = n := by simpa using h.len
  refine .sl 3 _ A n c (fun k => (iv (ls.getD k 0))) (by simpa using hn) h.cap h.max (fun x hx => ?_) (fun k y hk => ?_) (fun k y hk => ?_)
  · obtain ⟨l, _, rfl⟩ := List.mem_map.1 hx
    show okEl (g.sz 3) _ = true
    rw [hg]; rfl
  · rw [hf, List.getElem?_map, Option.map_eq_some_iff] at hk
    obtain ⟨l, hl', rfl⟩ := hk
    obtain ⟨b, off, hA, hc⟩ := h.at_ k (iv l) (by rw [List.getElem?_map, hl']; rfl)
    refine ⟨b, off, hA, ?_, ?_⟩
    · have hb : w.heap.size ≤ b := h2 _ hA
      unfold Stable
      show (match (if b < w.heap.size then g.Γ b else Perm.imm) with | .imm => True | .low n => off + k < n | .own _ n => off + k < n | .box _ _ => False)
      rw [if_neg (by omega)]
      trivial
    · rw [hc]
      simp [List.getD, hl']
  · rw [hf, List.getElem?_map, Option.map_eq_some_iff] at hk
    obtain ⟨l, hl', rfl⟩ := hk
    have : ls.getD k 0 = l := by simp [List.getD, hl']
    show RepV (newG g w) w' _ (iv (ls.getD k 0))
    rw [this]
    exact rep_i64 (hl l (List.mem_of_getElem? hl'))
theorem sz_int {g : G} {w : World} (h : SzOK T g w) : g.sz 3 = 1 := by rw [h.eq]; kernel_rfl
def s_cNext (N : Nat) (x0 x1 x2 x3 x4 : Int) : Option (List V) := some ((nextQ ⟨x0, x1, x2, x3⟩ x4).map (V.int .i64))
theorem p_cNext (N : Nat) (x0 x1 x2 x3 x4 : Int) (r0 : List V) (h : s_cNext N x0 x1 x2 x3 x4 = some r0) : PureRet Tryd.prog T 30 [.agg [.v (.int .i64 x0) .no, .v (.int .i64 x1) .no, .v (.int .i64 x2) .no, .v (.int .i64 x3) .no], .v (.int .i64 x4) .no] [.v (.sl 3 r0) .no] := by
  injection h with h
  subst h
  intro E g w us hsz hus
  obtain ⟨hl, hr⟩ := hus
  match us, hl with
  | [u, v], _ =>
  have hu := hr 0 _ rfl
  have hv := hr 1 _ rfl
  simp only [List.getD_cons_zero, List.getD_cons_succ] at hu hv
  cases hv with | v _ _ _ hv _ =>
  cases hu with | agg _ us2 hn2 hr2 =>
  obtain ⟨us2⟩ := us2
  match us2, hn2 with
  | [p, q, r, s], _ =>
  have h0 := hr2 0 _ rfl
  have h1 := hr2 1 _ rfl
  have h2 := hr2 2 _ rfl
  have h3 := hr2 3 _ rfl
  simp at h0 h1 h2 h3
  cases h0 with | v _ _ _ h0 _ => cases h1 with | v _ _ _ h1 _ => cases h2 with | v _ _ _ h2 _ => cases h3 with | v _ _ _ h3 _ =>
  cases hv with | int _ _ hv =>
  cases h0 with | int _ _ h0 => cases h1 with | int _ _ h1 => cases h2 with | int _ _ h2 => cases h3 with | int _ _ h3 =>
  refine (next_walk hsz ⟨x0, x1, x2, x3⟩ x4 h0 h1 h2 h3 hv).mono ?_
  rintro e w' ⟨A, n, cp, rfl, ⟨hd, hA⟩, hb⟩
  refine ⟨[.slice A n cp], newG g w, rfl, fun E' => ⟨rfl, fun j y hk => ?_⟩, newG_tr hb⟩
  rcases j with _ | j
  · simp at hk; subst hk
    exact .v _ _ _ (int_rep (sz_int hsz) hd hA (next_mem (i := ⟨x0, x1, x2, x3⟩) h1 hv)) trivial
  · simp at hk
end Go.Proofs.YtjpmogajlnkihaaDoor.En

/- Joins. -/

/- Functions of the program in plain Lean, joined to the program by evaluation; printed by a program. -/
namespace Go.Proofs.YtjpmogajlnkihaaDoor.En
open Go Go.Proofs
set_option maxRecDepth 100000
set_option linter.unusedVariables false
noncomputable def e_cNext {R : Type} (s : Int → Int → Int → Int → Int → Option (List V)) (ds : List D) (K : List D → Option R) : Option R :=
  match ds with
  | [.agg [.v (.int .i64 x0) .no, .v (.int .i64 x1) .no, .v (.int .i64 x2) .no, .v (.int .i64 x3) .no], .v (.int .i64 x4) .no] => bnd1 (s x0 x1 x2 x3 x4) fun r0 => K [.v (.sl 3 r0) .no]
  | _ => none
theorem go_cNext : Goes Tryd.prog 30 := goes_of Tryd.func30 (by kernel_rfl) (c := bodyOf Tryd.f30) (by kernel_rfl)
theorem eo_cNext (s : Int → Int → Int → Int → Int → Option (List V)) (hs : ∀ (x0 : Int) (x1 : Int) (x2 : Int) (x3 : Int) (x4 : Int) (r0 : List V), s x0 x1 x2 x3 x4 = some r0 → PureRet Tryd.prog T 30 [.agg [.v (.int .i64 x0) .no, .v (.int .i64 x1) .no, .v (.int .i64 x2) .no, .v (.int .i64 x3) .no], .v (.int .i64 x4) .no] [.v (.sl 3 r0) .no]) : EntOK Tryd.prog T ⟨30, e_cNext s⟩ := by
  refine ⟨go_cNext, fun R ds K r h => ?_, fun R ds K => ?_⟩
  · simp only [e_cNext] at h
    split at h
    · obtain ⟨r0, h1, h2⟩ := bnd1_some h
      exact ⟨_, h2, hs _ _ _ _ _ _ h1⟩
    · cases h
  · simp only [e_cNext]
    split
    · rw [bnd1_b]; rfl
    · rfl
noncomputable def r_wFollows (rs : List D) (_ : Mem) : Option (Bool) :=
  match rs with
  | [.v (.bool r0) _] => some (r0)
  | _ => none
noncomputable def s_wFollows (N : Nat) (x0 : Int) (x1 : Int) (x2 : Int) (x3 : Int) (x4 : Int) : Option (Bool) := bnd1 (s_cNext N x0 x1 x2 x3 x4) fun l0 => bnd1 (s_rNext N x0 x1 x2 x3 x4) fun l1 => bnd1 (s_Ints N l0 l1) fun b2 => br b2 (bnd1 (s_awake N) fun b3 => some b3) (some false)
noncomputable def cx_wFollows (N : Nat) : Cx := { T := T, isPure := tabP [⟨30, e_cNext (s_cNext N)⟩, ⟨31, e_rNext (s_rNext N)⟩, ⟨29, e_Ints (s_Ints N)⟩, ⟨14, e_awake (s_awake N)⟩], pureK := fun g ds K => tabK [⟨30, e_cNext (s_cNext N)⟩, ⟨31, e_rNext (s_rNext N)⟩, ⟨29, e_Ints (s_Ints N)⟩, ⟨14, e_awake (s_awake N)⟩] g ds K, memK := fun g dst ds m K => tabMK [] g dst ds m K, meth := tabM [], keep := fun _ => [], keepX := fun _ => [], loopT := fun _ _ _ _ => none, jumps := 9 }
theorem s_wFollows_ok (N : Nat) (x0 : Int) (x1 : Int) (x2 : Int) (x3 : Int) (x4 : Int) : bodyK (cx_wFollows N) Tryd.f11 [.agg [.v (.int .i64 x0) .no, .v (.int .i64 x1) .no, .v (.int .i64 x2) .no, .v (.int .i64 x3) .no], .v (.int .i64 x4) .no] [] r_wFollows = s_wFollows N x0 x1 x2 x3 x4 := by
  kernel_rfl
theorem co_wFollows (N : Nat) : CxOK Tryd.prog (cx_wFollows N) :=
  cxOK_of2 (es := [⟨30, e_cNext (s_cNext N)⟩, ⟨31, e_rNext (s_rNext N)⟩, ⟨29, e_Ints (s_Ints N)⟩, ⟨14, e_awake (s_awake N)⟩]) (me := []) (ms := []) T_ok ⟨eo_cNext _ (p_cNext N), eo_rNext _ (p_rNext N), eo_Ints _ (p_Ints N), eo_awake _ (p_awake N), trivial⟩ trivial trivial rfl (fun _ _ _ _ => rfl) (fun _ _ _ _ _ _ => rfl) rfl
theorem lo_wFollows (N : Nat) : LoopsOK (cx_wFollows N) Tryd.f11.ntmps (bodyOf Tryd.f11) :=
  loopsOK_of (k := 0) (by kernel_rfl) trivial
theorem p_wFollows (N : Nat) (x0 : Int) (x1 : Int) (x2 : Int) (x3 : Int) (x4 : Int) (r0 : Bool) (h : s_wFollows N x0 x1 x2 x3 x4 = some r0) : PureRet Tryd.prog T 11 [.agg [.v (.int .i64 x0) .no, .v (.int .i64 x1) .no, .v (.int .i64 x2) .no, .v (.int .i64 x3) .no], .v (.int .i64 x4) .no] [.v (.bool r0) .no] :=
  pure_of (cx := cx_wFollows N) (by kernel_rfl) (co_wFollows N) Tryd.func11 (by kernel_rfl) (by kernel_rfl) (lo_wFollows N) rfl rfl rfl (rf := r_wFollows) ((s_wFollows_ok N x0 x1 x2 x3 x4).trans h) (fun rs' m h => by
    unfold r_wFollows at h
    split at h
    · cases h; exact ⟨rfl, rfl⟩
    · cases h)
end Go.Proofs.YtjpmogajlnkihaaDoor.En

/- The printed functions, together. -/

/- The law Follows. -/
namespace Go.Proofs.YtjpmogajlnkihaaDoor.En
open Go
set_option linter.unusedVariables false
section
variable (N : Nat) {R : Type}
theorem ints_loop (K0 : Bool → Option R) (K1 : Option R) : ∀ (l : List Int) (pre : List V) (t : Nat), l.length < t → pre.length + l.length ≤ 1000000 → S_Ints_4 N (pre ++ l.map (V.int .i64)) (pre ++ l.map (V.int .i64)) t (pre.length : Int) K0 K1 = K1
  | l, pre, 0, ht, _ => by omega
  | [], pre, t + 1, ht, _ => by
    unfold S_Ints_4 F_Ints_4
    simp only [List.map_nil, br_t, br_f, br_dec, br_not, br_and, br_or, bnd1_mk, bnd2_mk, bnd3_mk, bnd4_mk, bnd5_mk, bnd10_mk, at_zero, at_succ, at_mid, unInt_mk, unBool_mk, unStr_mk, unBytes_mk, unSl_mk, unAgg_mk, unCons_mk, unNil_mk, endV, if_false]
  | i :: l, pre, t + 1, ht, hl => by
    simp only [List.length_cons] at ht hl
    obtain ⟨h1, h2, h3⟩ := stepV pre (.int .i64 i) (l.map (V.int .i64)) (by rw [List.length_map]; omega)
    have ih := ints_loop K0 K1 l (pre ++ [.int .i64 i]) t (by omega) (by simp <;> omega)
    rw [← midV, ← h3] at ih
    unfold S_Ints_4 F_Ints_4
    simp only [List.map_cons, br_t, br_f, br_dec, br_not, br_and, br_or, bnd1_mk, bnd2_mk, bnd3_mk, bnd4_mk, bnd5_mk, bnd10_mk, at_zero, at_succ, at_mid, unInt_mk, unBool_mk, unStr_mk, unBytes_mk, unSl_mk, unAgg_mk, unCons_mk, unNil_mk, h1, h2, if_true, Int.toNat_natCast]
    exact ih
theorem ints_eq (hN : 200000 < N) (l : List Int) (h : l.length ≤ 1000) : s_Ints N (l.map (V.int .i64)) (l.map (V.int .i64)) = some true := by
  unfold s_Ints
  rw [br_not, br_dec, if_pos rfl]
  have := ints_loop N (fun b0 => some b0) (some true) l [] N (by omega) (by simpa using by omega)
  rw [List.nil_append] at this
  exact this
theorem jump_of {op : Int} (h0 : 0 ≤ op) (h1 : op < 54) : fA op = 4 ↔ 21 ≤ op ∧ op ≤ 32 :=
  each54 (P := fun op => fA op = 4 ↔ 21 ≤ op ∧ op ≤ 32) (by decide +kernel) h0 h1
theorem rNext_eq (i : In) (n : Int) : s_rNext N i.op i.a i.b i.c n = some ((nextQ i n).map (V.int .i64)) := by
  unfold s_rNext nextQ
  rw [rCheck_eq, bnd1_mk, br_not, br_dec, br_dec, br_dec]
  by_cases hc : chk i = 0
  case neg => rw [if_neg hc, if_pos (Or.inl hc)]; rfl
  rw [if_pos hc]
  by_cases h1 : n < 0
  · rw [if_pos h1, if_pos (Or.inr (Or.inl h1))]; rfl
  rw [if_neg h1]
  by_cases h2 : 256 ≤ n
  · rw [if_pos h2, if_pos (Or.inr (Or.inr h2))]; rfl
  rw [if_neg h2, if_neg (show ¬ (chk i ≠ 0 ∨ n < 0 ∨ 256 ≤ n) by omega)]
  obtain ⟨r0, r1⟩ := chk_range hc
  have hj := jump_of r0 r1
  have hw : IntKind.i64.wrap (n + 1) = n + 1 := w64 (by omega) (by omega)
  simp only [br_dec, hw]
  unfold outQ
  by_cases a1 : i.op = 49
  · rw [if_pos a1, if_neg (by omega), if_pos (Or.inr (Or.inl a1)), List.append_nil, sort0, comp0]; rfl
  rw [if_neg a1]
  by_cases a2 : i.op = 50
  · rw [if_pos a2, if_neg (by omega), if_pos (Or.inr (Or.inr a2)), List.append_nil, sort0, comp0]; rfl
  rw [if_neg a2]
  by_cases a3 : i.op = 21
  · rw [if_pos a3, if_pos (by omega), if_pos (Or.inl a3), List.append_nil, sort1, comp1]; rfl
  rw [if_neg a3, if_neg (show ¬ (i.op = 21 ∨ i.op = 49 ∨ i.op = 50) by omega)]
  by_cases a4 : i.op < 22
  · rw [if_pos a4, if_neg (by omega), List.nil_append, sort1, comp1]; rfl
  rw [if_neg a4]
  by_cases a5 : 32 < i.op
  · rw [if_pos a5, if_neg (by omega), List.nil_append, sort1, comp1]; rfl
  rw [if_neg a5, if_pos (show fA i.op = 4 from hj.2 ⟨by omega, by omega⟩)]
  show _ = some ((Lib.compact (sortQ [i.a, n + 1])).map (V.int .i64))
  rw [two_eq]
  unfold twoQ
  by_cases b1 : i.a = n + 1
  · rw [if_pos b1, if_pos b1]; rfl
  rw [if_neg b1, if_neg b1]
  by_cases b2 : i.a < n + 1
  · rw [if_pos b2, if_pos b2]; rfl
  · rw [if_neg b2, if_neg b2]; rfl
theorem next_len (i : In) (n : Int) : (nextQ i n).length ≤ 1000 := by
  unfold nextQ
  split
  · simp
  · have h1 := Lib.compact_length_le (sortQ (outQ i.op i.a n))
    have h2 : (sortQ (outQ i.op i.a n)).length = (outQ i.op i.a n).length := List.length_mergeSort _
    have h3 : (outQ i.op i.a n).length ≤ 2 := by
      unfold outQ
      rw [List.length_append]
      split <;> split <;> simp
    omega
theorem law_follows (hN : 200000 < N) (i : In) (n : Int) : s_wFollows N i.op i.a i.b i.c n = some true := by
  unfold s_wFollows
  rw [show s_cNext N i.op i.a i.b i.c n = some ((nextQ i n).map (V.int .i64)) from rfl, bnd1_mk, rNext_eq, bnd1_mk, ints_eq N hN _ (next_len i n), bnd1_mk, br_t, awake_eq N hN]; rfl
end
end Go.Proofs.YtjpmogajlnkihaaDoor.En

/- Joins. -/
