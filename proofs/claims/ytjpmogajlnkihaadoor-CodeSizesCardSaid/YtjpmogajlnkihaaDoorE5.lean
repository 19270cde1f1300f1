/- Several texts in one. -/
import Derived.Test.YtjpmogajlnkihaaDoorE4
import Derived.Test.YtjpmogajlnkihaaDoorE2
import Derived.ProofKit
import Derived.OpenShut
import Derived.ChangeOld
import Derived.Below
import Derived.Test.YtjpmogajlnkihaaDoorRows
import Derived.ShutString
import Derived.Lib.SmallJoins
import Derived.Test.YtjpmogajlnkihaaDoorCards
import Derived.Test.YtjpmogajlnkihaaDoorTie
import Derived.Test.YtjpmogajlnkihaaDoorE3
import Derived.Lib.LaidTab
import Derived.LaidMore
import Derived.Handed
import Derived.WideShapes
import Derived.Lay

set_option linter.unusedSimpArgs false
set_option linter.unusedVariables false
set_option linter.unusedSectionVars false
/- Functions of the program in plain Lean, joined to the program by evaluation; printed by a program. -/
namespace Go.Proofs.YtjpmogajlnkihaaDoor.En
open Go Go.Proofs
set_option maxRecDepth 100000
set_option linter.unusedVariables false
noncomputable def e_number {R : Type} (s : List UInt8 → Option (Int × Bool × Bool)) (ds : List D) (K : List D → Option R) : Option R :=
  match ds with
  | [.v (.str x0) .no] => bnd3 (s x0) fun r0 r1 r2 => K [.agg [.v (.int .i64 r0) .no, .v (.bool r1) .no, .v (.bool r2) .no]]
  | _ => none
theorem go_number : Goes Tryd.prog 80 := goes_of Tryd.func80 (by kernel_rfl) (c := bodyOf Tryd.f80) (by kernel_rfl)
theorem eo_number (s : List UInt8 → Option (Int × Bool × Bool)) (hs : ∀ (x0 : List UInt8) (r0 : Int) (r1 : Bool) (r2 : Bool), s x0 = some (r0, r1, r2) → PureRet Tryd.prog T 80 [.v (.str x0) .no] [.agg [.v (.int .i64 r0) .no, .v (.bool r1) .no, .v (.bool r2) .no]]) : EntOK Tryd.prog T ⟨80, e_number s⟩ := by
  refine ⟨go_number, fun R ds K r h => ?_, fun R ds K => ?_⟩
  · simp only [e_number] at h
    split at h
    · obtain ⟨r0, r1, r2, h1, h2⟩ := bnd3_some h
      exact ⟨_, h2, hs _ _ _ _ h1⟩
    · cases h
  · simp only [e_number]
    split
    · rw [bnd3_b]; rfl
    · rfl
noncomputable def e_value {R : Type} (s : Int → List UInt8 → Option (Int × Bool × Bool)) (ds : List D) (K : List D → Option R) : Option R :=
  match ds with
  | [.v (.int .i64 x0) .no, .v (.str x1) .no] => bnd3 (s x0 x1) fun r0 r1 r2 => K [.agg [.v (.int .i64 r0) .no, .v (.bool r1) .no, .v (.bool r2) .no]]
  | _ => none
noncomputable def r_value (rs : List D) (_ : Mem) : Option (Int × Bool × Bool) :=
  match rs with
  | [.agg [.v (.int .i64 r0) _, .v (.bool r1) _, .v (.bool r2) _]] => some (r0, r1, r2)
  | _ => none
noncomputable def s_value (N : Nat) (x0 : Int) (x1 : List UInt8) : Option (Int × Bool × Bool) := br (decide (x0 = 7)) (bnd1 (s_kinds N) fun l0 => bnd1 (s_IndexS N l0 x1) fun n1 => some (IntKind.i64.wrap (n1 + 2), decide (0 ≤ n1), true)) (br (decide (x0 = 5)) (br (decide (x1 = ([115, 121, 115, 116, 101, 109] : List UInt8))) (some (255, true, true)) (bnd3 (s_number N x1) fun n2 b3 b4 => br (decide (x0 = 5)) (br (decide (n2 = 255)) (some (0, false, false)) (some (n2, b3, b4))) (some (n2, b3, b4)))) (bnd3 (s_number N x1) fun n5 b6 b7 => br (decide (x0 = 5)) (br (decide (n5 = 255)) (some (0, false, false)) (some (n5, b6, b7))) (some (n5, b6, b7))))
noncomputable def cx_value (N : Nat) : Cx := { T := T, isPure := tabP [⟨57, e_kinds (s_kinds N)⟩, ⟨63, e_IndexS (s_IndexS N)⟩, ⟨80, e_number (s_number N)⟩], pureK := fun g ds K => tabK [⟨57, e_kinds (s_kinds N)⟩, ⟨63, e_IndexS (s_IndexS N)⟩, ⟨80, e_number (s_number N)⟩] g ds K, memK := fun g dst ds m K => tabMK [] g dst ds m K, meth := tabM [], keep := fun _ => [], keepX := fun _ => [], loopT := fun _ _ _ _ => none, jumps := 9 }
theorem s_value_ok (N : Nat) (x0 : Int) (x1 : List UInt8) : bodyK (cx_value N) Tryd.f65 [.v (.int .i64 x0) .no, .v (.str x1) .no] [] r_value = s_value N x0 x1 := by
  kernel_rfl
theorem go_value : Goes Tryd.prog 65 := goes_of Tryd.func65 (by kernel_rfl) (c := bodyOf Tryd.f65) (by kernel_rfl)
theorem eo_value (s : Int → List UInt8 → Option (Int × Bool × Bool)) (hs : ∀ (x0 : Int) (x1 : List UInt8) (r0 : Int) (r1 : Bool) (r2 : Bool), s x0 x1 = some (r0, r1, r2) → PureRet Tryd.prog T 65 [.v (.int .i64 x0) .no, .v (.str x1) .no] [.agg [.v (.int .i64 r0) .no, .v (.bool r1) .no, .v (.bool r2) .no]]) : EntOK Tryd.prog T ⟨65, e_value s⟩ := by
  refine ⟨go_value, fun R ds K r h => ?_, fun R ds K => ?_⟩
  · simp only [e_value] at h
    split at h
    · obtain ⟨r0, r1, r2, h1, h2⟩ := bnd3_some h
      exact ⟨_, h2, hs _ _ _ _ _ h1⟩
    · cases h
  · simp only [e_value]
    split
    · rw [bnd3_b]; rfl
    · rfl
theorem co_value (N : Nat) : CxOK Tryd.prog (cx_value N) :=
  cxOK_of2 (es := [⟨57, e_kinds (s_kinds N)⟩, ⟨63, e_IndexS (s_IndexS N)⟩, ⟨80, e_number (s_number N)⟩]) (me := []) (ms := []) T_ok ⟨eo_kinds _ (p_kinds N), eo_IndexS _ (p_IndexS N), eo_number _ (p_number N), trivial⟩ trivial trivial rfl (fun _ _ _ _ => rfl) (fun _ _ _ _ _ _ => rfl) rfl
theorem lo_value (N : Nat) : LoopsOK (cx_value N) Tryd.f65.ntmps (bodyOf Tryd.f65) :=
  loopsOK_of (k := 0) (by kernel_rfl) trivial
theorem p_value (N : Nat) (x0 : Int) (x1 : List UInt8) (r0 : Int) (r1 : Bool) (r2 : Bool) (h : s_value N x0 x1 = some (r0, r1, r2)) : PureRet Tryd.prog T 65 [.v (.int .i64 x0) .no, .v (.str x1) .no] [.agg [.v (.int .i64 r0) .no, .v (.bool r1) .no, .v (.bool r2) .no]] :=
  pure_of (cx := cx_value N) (by kernel_rfl) (co_value N) Tryd.func65 (by kernel_rfl) (by kernel_rfl) (lo_value N) rfl rfl rfl (rf := r_value) ((s_value_ok N x0 x1).trans h) (fun rs' m h => by
    unfold r_value at h
    split at h
    · cases h; exact ⟨rfl, rfl⟩
    · cases h)
noncomputable def e_line {R : Type} (s : List UInt8 → Option (Int × Int × Int × Int × Int)) (ds : List D) (K : List D → Option R) : Option R :=
  match ds with
  | [.v (.str x0) .no] => bnd5 (s x0) fun r0 r1 r2 r3 r4 => K [.agg [.v (.int .i64 r0) .no, .v (.int .i64 r1) .no, .v (.int .i64 r2) .no, .v (.int .i64 r3) .no], .v (.int .i64 r4) .no]
  | _ => none
noncomputable def r_line (rs : List D) (_ : Mem) : Option (Int × Int × Int × Int × Int) :=
  match rs with
  | [.agg [.v (.int .i64 r0) _, .v (.int .i64 r1) _, .v (.int .i64 r2) _, .v (.int .i64 r3) _], .v (.int .i64 r4) _] => some (r0, r1, r2, r3, r4)
  | _ => none
noncomputable def F_line_12 {R : Type} (N : Nat) (n0 : Int) (vs2 : List V) (n3 : Int) (n5 : Int) (n6 : Int) (n7 : Int) (n8 : Int) (n9 : Int) (n10 : Int) (n11 : Int) (Lq : Bool → Int → Int → Int → Int → Option R) (K0 : Int → Bool → Int → Int → Int → Int → Int → Int → Int → Option R) (K1 : Bool → Int → Int → Int → Option R) (b1 : Bool) (n4 : Int) (n12 : Int) (n13 : Int) (n14 : Int) : Option R := br (decide (n4 < n3)) (br (decide (0 ≤ n4) && decide (n4 < (↑vs2.length : Int))) (at? vs2 n4.toNat fun x0 => x0.unStr fun l1 => br (decide (n4 = 0)) (bnd3 (s_value N n9 l1) fun n2 b3 b4 => br (!b3) (K0 30 b1 0 0 0 0 n12 n13 n14) (br b1 (br (decide (n4 = 0)) (Lq b4 (IntKind.i64.wrap (n4 + 1)) n2 n13 n14) (br (decide (n4 = 1)) (Lq b4 (IntKind.i64.wrap (n4 + 1)) n12 n2 n14) (br (decide (n4 = 2)) (Lq b4 (IntKind.i64.wrap (n4 + 1)) n12 n13 n2) none))) (br (decide (n4 = 0)) (Lq false (IntKind.i64.wrap (n4 + 1)) n2 n13 n14) (br (decide (n4 = 1)) (Lq false (IntKind.i64.wrap (n4 + 1)) n12 n2 n14) (br (decide (n4 = 2)) (Lq false (IntKind.i64.wrap (n4 + 1)) n12 n13 n2) none))))) (br (decide (n4 = 1)) (bnd3 (s_value N n10 l1) fun n5 b6 b7 => br (!b6) (K0 30 b1 0 0 0 0 n12 n13 n14) (br b1 (br (decide (n4 = 0)) (Lq b7 (IntKind.i64.wrap (n4 + 1)) n5 n13 n14) (br (decide (n4 = 1)) (Lq b7 (IntKind.i64.wrap (n4 + 1)) n12 n5 n14) (br (decide (n4 = 2)) (Lq b7 (IntKind.i64.wrap (n4 + 1)) n12 n13 n5) none))) (br (decide (n4 = 0)) (Lq false (IntKind.i64.wrap (n4 + 1)) n5 n13 n14) (br (decide (n4 = 1)) (Lq false (IntKind.i64.wrap (n4 + 1)) n12 n5 n14) (br (decide (n4 = 2)) (Lq false (IntKind.i64.wrap (n4 + 1)) n12 n13 n5) none))))) (br (decide (n4 = 2)) (bnd3 (s_value N n11 l1) fun n8 b9 b10 => br (!b9) (K0 30 b1 0 0 0 0 n12 n13 n14) (br b1 (br (decide (n4 = 0)) (Lq b10 (IntKind.i64.wrap (n4 + 1)) n8 n13 n14) (br (decide (n4 = 1)) (Lq b10 (IntKind.i64.wrap (n4 + 1)) n12 n8 n14) (br (decide (n4 = 2)) (Lq b10 (IntKind.i64.wrap (n4 + 1)) n12 n13 n8) none))) (br (decide (n4 = 0)) (Lq false (IntKind.i64.wrap (n4 + 1)) n8 n13 n14) (br (decide (n4 = 1)) (Lq false (IntKind.i64.wrap (n4 + 1)) n12 n8 n14) (br (decide (n4 = 2)) (Lq false (IntKind.i64.wrap (n4 + 1)) n12 n13 n8) none))))) none))) none) (K1 b1 n12 n13 n14)
noncomputable def S_line_12 {R : Type} (N : Nat) (n0 : Int) (vs2 : List V) (n3 : Int) (n5 : Int) (n6 : Int) (n7 : Int) (n8 : Int) (n9 : Int) (n10 : Int) (n11 : Int) : Nat → Bool → Int → Int → Int → Int → (Int → Bool → Int → Int → Int → Int → Int → Int → Int → Option R) → (Bool → Int → Int → Int → Option R) → Option R | 0, _, _, _, _, _, _, _ => none | t + 1, b1, n4, n12, n13, n14, K0, K1 => F_line_12 N n0 vs2 n3 n5 n6 n7 n8 n9 n10 n11 (fun b1 n4 n12 n13 n14 => S_line_12 N n0 vs2 n3 n5 n6 n7 n8 n9 n10 n11 t b1 n4 n12 n13 n14 K0 K1) K0 K1 b1 n4 n12 n13 n14
noncomputable def l_line_12 {R : Type} (N : Nat) (ds : List D) (m : Mem) (K : Ex → List D → Mem → Option R) : Option R :=
  match ds, m with
  | [(.ptr 0 2 0), (.v (.int .i64 n0) .no), (.ptr 0 6 0), (.ptr 0 9 0), (.v (.bool b1) .no), .any, (.v (.sl 9 vs2) .no), (.v (.int .i64 n3) .no), (.v (.int .i64 n4) .no)], [[(2, ⟨23, [(.v (.int .i64 n5) .no), (.v (.int .i64 n6) .no), (.v (.int .i64 n7) .no), (.v (.int .i64 n8) .no)]⟩), (6, ⟨59, [(.v (.int .i64 n9) .no), (.v (.int .i64 n10) .no), (.v (.int .i64 n11) .no)]⟩), (9, ⟨57, [(.v (.int .i64 n12) .no), (.v (.int .i64 n13) .no), (.v (.int .i64 n14) .no)]⟩)]] => S_line_12 N n0 vs2 n3 n5 n6 n7 n8 n9 n10 n11 N b1 n4 n12 n13 n14 (fun a0 a2 a3 a4 a5 a6 a10 a11 a12 => K .ret [(.ptr 0 2 0), (.v (.int .i64 a0) .no), (.v (.int .i64 n0) .no), (.ptr 0 6 0), (.ptr 0 9 0), (.v (.bool a2) .no), .any] [[(2, ⟨23, [(.v (.int .i64 a3) .no), (.v (.int .i64 a4) .no), (.v (.int .i64 a5) .no), (.v (.int .i64 a6) .no)]⟩), (6, ⟨59, [(.v (.int .i64 n9) .no), (.v (.int .i64 n10) .no), (.v (.int .i64 n11) .no)]⟩), (9, ⟨57, [(.v (.int .i64 a10) .no), (.v (.int .i64 a11) .no), (.v (.int .i64 a12) .no)]⟩)]]) (fun a1 a9 a10 a11 => K (.exit 0) [(.ptr 0 2 0), .any, (.v (.int .i64 n0) .no), (.ptr 0 6 0), (.ptr 0 9 0), (.v (.bool a1) .no), .any] [[(2, ⟨23, [(.v (.int .i64 n5) .no), (.v (.int .i64 n6) .no), (.v (.int .i64 n7) .no), (.v (.int .i64 n8) .no)]⟩), (6, ⟨59, [(.v (.int .i64 n9) .no), (.v (.int .i64 n10) .no), (.v (.int .i64 n11) .no)]⟩), (9, ⟨57, [(.v (.int .i64 a9) .no), (.v (.int .i64 a10) .no), (.v (.int .i64 a11) .no)]⟩)]])
  | _, _ => none
noncomputable def s_line (N : Nat) (x0 : List UInt8) : Option (Int × Int × Int × Int × Int) := bnd1 (s_Split N x0 ([32] : List UInt8)) fun l0 => bnd1 (s_names N) fun l1 => br (decide (0 < (↑l0.length : Int))) (at? l0 0 fun x2 => x2.unStr fun l3 => bnd1 (s_IndexS N l1 l3) fun n4 => br (decide (n4 < 0)) (some (0, 0, 0, 0, 30)) (bnd3 (s_formOf N n4) fun n5 n6 n7 => br (decide (1 ≤ (↑l0.length : Int))) (bnd2 (s_words N n5 n6 n7 (List.drop 1 l0)) fun l8 b9 => br (!b9) (some (0, 0, 0, 0, 30)) (S_line_12 N n4 l8 (↑l8.length : Int) 0 0 0 0 n5 n6 n7 N true 0 0 0 0 (fun n10 b11 n12 n13 n14 n15 n16 n17 n18 => some (n12, n13, n14, n15, n10)) fun b19 n20 n21 n22 => br (!b19) (some (0, 0, 0, 0, 2)) (bnd1 (s_cCheck N n4 n20 n21 n22) fun n23 => some (n4, n20, n21, n22, n23)))) none)) none
noncomputable def cx_line (N : Nat) : Cx := { T := T, isPure := tabP [⟨62, e_Split (s_Split N)⟩, ⟨39, e_names (s_names N)⟩, ⟨63, e_IndexS (s_IndexS N)⟩, ⟨33, e_formOf (s_formOf N)⟩, ⟨64, e_words (s_words N)⟩, ⟨65, e_value (s_value N)⟩, ⟨12, e_cCheck (s_cCheck N)⟩], pureK := fun g ds K => tabK [⟨62, e_Split (s_Split N)⟩, ⟨39, e_names (s_names N)⟩, ⟨63, e_IndexS (s_IndexS N)⟩, ⟨33, e_formOf (s_formOf N)⟩, ⟨64, e_words (s_words N)⟩, ⟨65, e_value (s_value N)⟩, ⟨12, e_cCheck (s_cCheck N)⟩] g ds K, memK := fun g dst ds m K => tabMK [] g dst ds m K, meth := tabM [], keep := fun r => match r with | 12 => [2, 5, 6, 9, 10, 14, 37, 38, 39] | _ => [], keepX := fun r => match r with | 12 => [2, 3, 5, 6, 9, 10, 14] | _ => [], loopT := fun r ds m K => match r with | 12 => l_line_12 N ds m K | _ => none, jumps := 9, dyn := true }
theorem F_line_12_ok {R : Type} (N : Nat) (n0 : Int) (vs2 : List V) (n3 : Int) (n5 : Int) (n6 : Int) (n7 : Int) (n8 : Int) (n9 : Int) (n10 : Int) (n11 : Int) (b1 : Bool) (n4 : Int) (n12 : Int) (n13 : Int) (n14 : Int) (L : List D → Mem → Option R) (K : Ex → List D → Mem → Option R) :
    roundK (fun st K => codeK (cx_line N) (loopN Tryd.f46 0) st K) 77 [2, 5, 6, 9, 10, 14, 37, 38, 39] [2, 3, 5, 6, 9, 10, 14] L [(.ptr 0 2 0), (.v (.int .i64 n0) .no), (.ptr 0 6 0), (.ptr 0 9 0), (.v (.bool b1) .no), .any, (.v (.sl 9 vs2) .no), (.v (.int .i64 n3) .no), (.v (.int .i64 n4) .no)] [[(2, ⟨23, [(.v (.int .i64 n5) .no), (.v (.int .i64 n6) .no), (.v (.int .i64 n7) .no), (.v (.int .i64 n8) .no)]⟩), (6, ⟨59, [(.v (.int .i64 n9) .no), (.v (.int .i64 n10) .no), (.v (.int .i64 n11) .no)]⟩), (9, ⟨57, [(.v (.int .i64 n12) .no), (.v (.int .i64 n13) .no), (.v (.int .i64 n14) .no)]⟩)]] K = F_line_12 N n0 vs2 n3 n5 n6 n7 n8 n9 n10 n11 (fun b1 n4 n12 n13 n14 => L [(.ptr 0 2 0), (.v (.int .i64 n0) .no), (.ptr 0 6 0), (.ptr 0 9 0), (.v (.bool b1) .no), .any, (.v (.sl 9 vs2) .no), (.v (.int .i64 n3) .no), (.v (.int .i64 n4) .no)] [[(2, ⟨23, [(.v (.int .i64 n5) .no), (.v (.int .i64 n6) .no), (.v (.int .i64 n7) .no), (.v (.int .i64 n8) .no)]⟩), (6, ⟨59, [(.v (.int .i64 n9) .no), (.v (.int .i64 n10) .no), (.v (.int .i64 n11) .no)]⟩), (9, ⟨57, [(.v (.int .i64 n12) .no), (.v (.int .i64 n13) .no), (.v (.int .i64 n14) .no)]⟩)]]) (fun a0 a2 a3 a4 a5 a6 a10 a11 a12 => K .ret [(.ptr 0 2 0), (.v (.int .i64 a0) .no), (.v (.int .i64 n0) .no), (.ptr 0 6 0), (.ptr 0 9 0), (.v (.bool a2) .no), .any] [[(2, ⟨23, [(.v (.int .i64 a3) .no), (.v (.int .i64 a4) .no), (.v (.int .i64 a5) .no), (.v (.int .i64 a6) .no)]⟩), (6, ⟨59, [(.v (.int .i64 n9) .no), (.v (.int .i64 n10) .no), (.v (.int .i64 n11) .no)]⟩), (9, ⟨57, [(.v (.int .i64 a10) .no), (.v (.int .i64 a11) .no), (.v (.int .i64 a12) .no)]⟩)]]) (fun a1 a9 a10 a11 => K (.exit 0) [(.ptr 0 2 0), .any, (.v (.int .i64 n0) .no), (.ptr 0 6 0), (.ptr 0 9 0), (.v (.bool a1) .no), .any] [[(2, ⟨23, [(.v (.int .i64 n5) .no), (.v (.int .i64 n6) .no), (.v (.int .i64 n7) .no), (.v (.int .i64 n8) .no)]⟩), (6, ⟨59, [(.v (.int .i64 n9) .no), (.v (.int .i64 n10) .no), (.v (.int .i64 n11) .no)]⟩), (9, ⟨57, [(.v (.int .i64 a9) .no), (.v (.int .i64 a10) .no), (.v (.int .i64 a11) .no)]⟩)]]) b1 n4 n12 n13 n14 := by
  kernel_rfl
theorem S_line_12_ok {R : Type} (N : Nat) (n0 : Int) (vs2 : List V) (n3 : Int) (n5 : Int) (n6 : Int) (n7 : Int) (n8 : Int) (n9 : Int) (n10 : Int) (n11 : Int) (K : Ex → List D → Mem → Option R) : ∀ (t : Nat) (b1 : Bool) (n4 : Int) (n12 : Int) (n13 : Int) (n14 : Int),
    loopK (fun st K => codeK (cx_line N) (loopN Tryd.f46 0) st K) 77 [2, 5, 6, 9, 10, 14, 37, 38, 39] [2, 3, 5, 6, 9, 10, 14] t [(.ptr 0 2 0), (.v (.int .i64 n0) .no), (.ptr 0 6 0), (.ptr 0 9 0), (.v (.bool b1) .no), .any, (.v (.sl 9 vs2) .no), (.v (.int .i64 n3) .no), (.v (.int .i64 n4) .no)] [[(2, ⟨23, [(.v (.int .i64 n5) .no), (.v (.int .i64 n6) .no), (.v (.int .i64 n7) .no), (.v (.int .i64 n8) .no)]⟩), (6, ⟨59, [(.v (.int .i64 n9) .no), (.v (.int .i64 n10) .no), (.v (.int .i64 n11) .no)]⟩), (9, ⟨57, [(.v (.int .i64 n12) .no), (.v (.int .i64 n13) .no), (.v (.int .i64 n14) .no)]⟩)]] K = S_line_12 N n0 vs2 n3 n5 n6 n7 n8 n9 n10 n11 t b1 n4 n12 n13 n14 (fun a0 a2 a3 a4 a5 a6 a10 a11 a12 => K .ret [(.ptr 0 2 0), (.v (.int .i64 a0) .no), (.v (.int .i64 n0) .no), (.ptr 0 6 0), (.ptr 0 9 0), (.v (.bool a2) .no), .any] [[(2, ⟨23, [(.v (.int .i64 a3) .no), (.v (.int .i64 a4) .no), (.v (.int .i64 a5) .no), (.v (.int .i64 a6) .no)]⟩), (6, ⟨59, [(.v (.int .i64 n9) .no), (.v (.int .i64 n10) .no), (.v (.int .i64 n11) .no)]⟩), (9, ⟨57, [(.v (.int .i64 a10) .no), (.v (.int .i64 a11) .no), (.v (.int .i64 a12) .no)]⟩)]]) (fun a1 a9 a10 a11 => K (.exit 0) [(.ptr 0 2 0), .any, (.v (.int .i64 n0) .no), (.ptr 0 6 0), (.ptr 0 9 0), (.v (.bool a1) .no), .any] [[(2, ⟨23, [(.v (.int .i64 n5) .no), (.v (.int .i64 n6) .no), (.v (.int .i64 n7) .no), (.v (.int .i64 n8) .no)]⟩), (6, ⟨59, [(.v (.int .i64 n9) .no), (.v (.int .i64 n10) .no), (.v (.int .i64 n11) .no)]⟩), (9, ⟨57, [(.v (.int .i64 a9) .no), (.v (.int .i64 a10) .no), (.v (.int .i64 a11) .no)]⟩)]])
  | 0, b1, n4, n12, n13, n14 => rfl
  | t + 1, b1, n4, n12, n13, n14 => (F_line_12_ok N n0 vs2 n3 n5 n6 n7 n8 n9 n10 n11 b1 n4 n12 n13 n14 _ K).trans (congrArg (fun L => F_line_12 N n0 vs2 n3 n5 n6 n7 n8 n9 n10 n11 L (fun a0 a2 a3 a4 a5 a6 a10 a11 a12 => K .ret [(.ptr 0 2 0), (.v (.int .i64 a0) .no), (.v (.int .i64 n0) .no), (.ptr 0 6 0), (.ptr 0 9 0), (.v (.bool a2) .no), .any] [[(2, ⟨23, [(.v (.int .i64 a3) .no), (.v (.int .i64 a4) .no), (.v (.int .i64 a5) .no), (.v (.int .i64 a6) .no)]⟩), (6, ⟨59, [(.v (.int .i64 n9) .no), (.v (.int .i64 n10) .no), (.v (.int .i64 n11) .no)]⟩), (9, ⟨57, [(.v (.int .i64 a10) .no), (.v (.int .i64 a11) .no), (.v (.int .i64 a12) .no)]⟩)]]) (fun a1 a9 a10 a11 => K (.exit 0) [(.ptr 0 2 0), .any, (.v (.int .i64 n0) .no), (.ptr 0 6 0), (.ptr 0 9 0), (.v (.bool a1) .no), .any] [[(2, ⟨23, [(.v (.int .i64 n5) .no), (.v (.int .i64 n6) .no), (.v (.int .i64 n7) .no), (.v (.int .i64 n8) .no)]⟩), (6, ⟨59, [(.v (.int .i64 n9) .no), (.v (.int .i64 n10) .no), (.v (.int .i64 n11) .no)]⟩), (9, ⟨57, [(.v (.int .i64 a9) .no), (.v (.int .i64 a10) .no), (.v (.int .i64 a11) .no)]⟩)]]) b1 n4 n12 n13 n14) (funext fun b1 => funext fun n4 => funext fun n12 => funext fun n13 => funext fun n14 => S_line_12_ok N n0 vs2 n3 n5 n6 n7 n8 n9 n10 n11 K t b1 n4 n12 n13 n14))
theorem s_line_ok (N : Nat) (x0 : List UInt8) : bodyK (cx_line N) Tryd.f46 [.v (.str x0) .no] [] r_line = s_line N x0 := by
  kernel_rfl
theorem go_line : Goes Tryd.prog 46 := goes_of Tryd.func46 (by kernel_rfl) (c := bodyOf Tryd.f46) (by kernel_rfl)
theorem eo_line (s : List UInt8 → Option (Int × Int × Int × Int × Int)) (hs : ∀ (x0 : List UInt8) (r0 : Int) (r1 : Int) (r2 : Int) (r3 : Int) (r4 : Int), s x0 = some (r0, r1, r2, r3, r4) → PureRet Tryd.prog T 46 [.v (.str x0) .no] [.agg [.v (.int .i64 r0) .no, .v (.int .i64 r1) .no, .v (.int .i64 r2) .no, .v (.int .i64 r3) .no], .v (.int .i64 r4) .no]) : EntOK Tryd.prog T ⟨46, e_line s⟩ := by
  refine ⟨go_line, fun R ds K r h => ?_, fun R ds K => ?_⟩
  · simp only [e_line] at h
    split at h
    · obtain ⟨r0, r1, r2, r3, r4, h1, h2⟩ := bnd5_some h
      exact ⟨_, h2, hs _ _ _ _ _ _ h1⟩
    · cases h
  · simp only [e_line]
    split
    · rw [bnd5_b]; rfl
    · rfl
theorem co_line (N : Nat) : CxOK Tryd.prog (cx_line N) :=
  cxOK_of2 (es := [⟨62, e_Split (s_Split N)⟩, ⟨39, e_names (s_names N)⟩, ⟨63, e_IndexS (s_IndexS N)⟩, ⟨33, e_formOf (s_formOf N)⟩, ⟨64, e_words (s_words N)⟩, ⟨65, e_value (s_value N)⟩, ⟨12, e_cCheck (s_cCheck N)⟩]) (me := []) (ms := []) T_ok ⟨eo_Split _ (p_Split N), eo_names _ (p_names N), eo_IndexS _ (p_IndexS N), eo_formOf _ (p_formOf N), eo_words _ (p_words N), eo_value _ (p_value N), eo_cCheck _ (p_cCheck N), trivial⟩ trivial trivial rfl (fun _ _ _ _ => rfl) (fun _ _ _ _ _ _ => rfl) rfl
theorem lk_line_12 (N : Nat) : LoopOK (cx_line N) 77 (loopN Tryd.f46 0) := by
  refine loopOK_of (rid := 12) (by kernel_rfl) rfl rfl fun R ds m K r h => ?_
  have h : l_line_12 N ds m K = some r := h
  unfold l_line_12 at h
  split at h
  · exact ⟨N, Eq.trans (S_line_12_ok ..) h⟩
  · cases h
theorem lo_line (N : Nat) : LoopsOK (cx_line N) Tryd.f46.ntmps (bodyOf Tryd.f46) :=
  loopsOK_of (k := 1) (by kernel_rfl) ⟨trivial, lk_line_12 N⟩
theorem p_line (N : Nat) (x0 : List UInt8) (r0 : Int) (r1 : Int) (r2 : Int) (r3 : Int) (r4 : Int) (h : s_line N x0 = some (r0, r1, r2, r3, r4)) : PureRet Tryd.prog T 46 [.v (.str x0) .no] [.agg [.v (.int .i64 r0) .no, .v (.int .i64 r1) .no, .v (.int .i64 r2) .no, .v (.int .i64 r3) .no], .v (.int .i64 r4) .no] :=
  pure_of (cx := cx_line N) (by kernel_rfl) (co_line N) Tryd.func46 (by kernel_rfl) (by kernel_rfl) (lo_line N) rfl rfl rfl (rf := r_line) ((s_line_ok N x0).trans h) (fun rs' m h => by
    unfold r_line at h
    split at h
    · cases h; exact ⟨rfl, rfl⟩
    · cases h)
noncomputable def e_cParse {R : Type} (s : List UInt8 → Option (List V × Int)) (ds : List D) (K : List D → Option R) : Option R :=
  match ds with
  | [.v (.str x0) .no] => bnd2 (s x0) fun r0 r1 => K [.v (.sl 23 r0) .no, .v (.int .i64 r1) .no]
  | _ => none
noncomputable def r_cParse (rs : List D) (_ : Mem) : Option (List V × Int) :=
  match rs with
  | [.v (.sl 23 r0) _, .v (.int .i64 r1) _] => some (r0, r1)
  | _ => none
noncomputable def F_cParse_2 {R : Type} (N : Nat)  (Lq : List UInt8 → List V → Option R) (K0 : List V → Int → List V → Option R) (K1 : List V → Option R) (l0 : List UInt8) (vs1 : List V) : Option R := br (!decide (l0 = [])) (br (decide ((↑vs1.length : Int) = 256)) (K0 [] 3 vs1) (bnd3 (s_Cut N l0 ([10] : List UInt8)) fun l0 l1 b2 => br (!b2) (K0 [] 30 vs1) (bnd5 (s_line N l0) fun n3 n4 n5 n6 n7 => br (!decide (n7 = 0)) (K0 [] n7 vs1) (br (decide ((vs1.length + [V.agg [V.int IntKind.i64 n3, V.int IntKind.i64 n4, V.int IntKind.i64 n5, V.int IntKind.i64 n6]].length) * 32 ≤ 140737488355328)) (Lq l1 (vs1 ++ [V.agg [V.int IntKind.i64 n3, V.int IntKind.i64 n4, V.int IntKind.i64 n5, V.int IntKind.i64 n6]])) none)))) (K1 vs1)
noncomputable def S_cParse_2 {R : Type} (N : Nat)  : Nat → List UInt8 → List V → (List V → Int → List V → Option R) → (List V → Option R) → Option R | 0, _, _, _, _ => none | t + 1, l0, vs1, K0, K1 => F_cParse_2 N  (fun l0 vs1 => S_cParse_2 N  t l0 vs1 K0 K1) K0 K1 l0 vs1
noncomputable def l_cParse_2 {R : Type} (N : Nat) (ds : List D) (m : Mem) (K : Ex → List D → Mem → Option R) : Option R :=
  match ds, m with
  | [(.v (.str l0) .no), (.v (.sl 23 vs1) (.own (.slot 4) 23))], [[]] => S_cParse_2 N  N l0 vs1 (fun a0 a1 a2 => K .ret [(.v (.sl 23 a0) (.own (.slot 2) 23)), (.v (.int .i64 a1) .no), (.v (.sl 23 a2) (.own (.slot 4) 23))] [[]]) (fun a0 => K (.exit 0) [.any, .any, (.v (.sl 23 a0) (.own (.slot 4) 23))] [[]])
  | _, _ => none
noncomputable def s_cParse (N : Nat) (x0 : List UInt8) : Option (List V × Int) := S_cParse_2 N N x0 [] (fun l0 n1 l2 => some (l0, n1)) fun l3 => some (l3, 0)
noncomputable def cx_cParse (N : Nat) : Cx := { T := T, isPure := tabP [⟨45, e_Cut (s_Cut N)⟩, ⟨46, e_line (s_line N)⟩], pureK := fun g ds K => tabK [⟨45, e_Cut (s_Cut N)⟩, ⟨46, e_line (s_line N)⟩] g ds K, memK := fun g dst ds m K => tabMK [] g dst ds m K, meth := tabM [], keep := fun r => match r with | 2 => [0, 4] | _ => [], keepX := fun r => match r with | 2 => [2, 3, 4] | _ => [], loopT := fun r ds m K => match r with | 2 => l_cParse_2 N ds m K | _ => none, jumps := 9 }
theorem F_cParse_2_ok {R : Type} (N : Nat)  (l0 : List UInt8) (vs1 : List V) (L : List D → Mem → Option R) (K : Ex → List D → Mem → Option R) :
    roundK (fun st K => codeK (cx_cParse N) (loopN Tryd.f20 0) st K) 37 [0, 4] [2, 3, 4] L [(.v (.str l0) .no), (.v (.sl 23 vs1) (.own (.slot 4) 23))] [[]] K = F_cParse_2 N  (fun l0 vs1 => L [(.v (.str l0) .no), (.v (.sl 23 vs1) (.own (.slot 4) 23))] [[]]) (fun a0 a1 a2 => K .ret [(.v (.sl 23 a0) (.own (.slot 2) 23)), (.v (.int .i64 a1) .no), (.v (.sl 23 a2) (.own (.slot 4) 23))] [[]]) (fun a0 => K (.exit 0) [.any, .any, (.v (.sl 23 a0) (.own (.slot 4) 23))] [[]]) l0 vs1 := by
  kernel_rfl
theorem S_cParse_2_ok {R : Type} (N : Nat)  (K : Ex → List D → Mem → Option R) : ∀ (t : Nat) (l0 : List UInt8) (vs1 : List V),
    loopK (fun st K => codeK (cx_cParse N) (loopN Tryd.f20 0) st K) 37 [0, 4] [2, 3, 4] t [(.v (.str l0) .no), (.v (.sl 23 vs1) (.own (.slot 4) 23))] [[]] K = S_cParse_2 N  t l0 vs1 (fun a0 a1 a2 => K .ret [(.v (.sl 23 a0) (.own (.slot 2) 23)), (.v (.int .i64 a1) .no), (.v (.sl 23 a2) (.own (.slot 4) 23))] [[]]) (fun a0 => K (.exit 0) [.any, .any, (.v (.sl 23 a0) (.own (.slot 4) 23))] [[]])
  | 0, l0, vs1 => rfl
  | t + 1, l0, vs1 => (F_cParse_2_ok N  l0 vs1 _ K).trans (congrArg (fun L => F_cParse_2 N  L (fun a0 a1 a2 => K .ret [(.v (.sl 23 a0) (.own (.slot 2) 23)), (.v (.int .i64 a1) .no), (.v (.sl 23 a2) (.own (.slot 4) 23))] [[]]) (fun a0 => K (.exit 0) [.any, .any, (.v (.sl 23 a0) (.own (.slot 4) 23))] [[]]) l0 vs1) (funext fun l0 => funext fun vs1 => S_cParse_2_ok N  K t l0 vs1))
theorem s_cParse_ok (N : Nat) (x0 : List UInt8) : bodyK (cx_cParse N) Tryd.f20 [.v (.str x0) .no] [] r_cParse = s_cParse N x0 := by
  kernel_rfl
theorem go_cParse : Goes Tryd.prog 20 := goes_of Tryd.func20 (by kernel_rfl) (c := bodyOf Tryd.f20) (by kernel_rfl)
theorem eo_cParse (s : List UInt8 → Option (List V × Int)) (hs : ∀ (x0 : List UInt8) (r0 : List V) (r1 : Int), s x0 = some (r0, r1) → PureRet Tryd.prog T 20 [.v (.str x0) .no] [.v (.sl 23 r0) .no, .v (.int .i64 r1) .no]) : EntOK Tryd.prog T ⟨20, e_cParse s⟩ := by
  refine ⟨go_cParse, fun R ds K r h => ?_, fun R ds K => ?_⟩
  · simp only [e_cParse] at h
    split at h
    · obtain ⟨r0, r1, h1, h2⟩ := bnd2_some h
      exact ⟨_, h2, hs _ _ _ h1⟩
    · cases h
  · simp only [e_cParse]
    split
    · rw [bnd2_b]; rfl
    · rfl
theorem co_cParse (N : Nat) : CxOK Tryd.prog (cx_cParse N) :=
  cxOK_of2 (es := [⟨45, e_Cut (s_Cut N)⟩, ⟨46, e_line (s_line N)⟩]) (me := []) (ms := []) T_ok ⟨eo_Cut _ (p_Cut N), eo_line _ (p_line N), trivial⟩ trivial trivial rfl (fun _ _ _ _ => rfl) (fun _ _ _ _ _ _ => rfl) rfl
theorem lk_cParse_2 (N : Nat) : LoopOK (cx_cParse N) 37 (loopN Tryd.f20 0) := by
  refine loopOK_of (rid := 2) (by kernel_rfl) rfl rfl fun R ds m K r h => ?_
  have h : l_cParse_2 N ds m K = some r := h
  unfold l_cParse_2 at h
  split at h
  · exact ⟨N, Eq.trans (S_cParse_2_ok ..) h⟩
  · cases h
theorem lo_cParse (N : Nat) : LoopsOK (cx_cParse N) Tryd.f20.ntmps (bodyOf Tryd.f20) :=
  loopsOK_of (k := 1) (by kernel_rfl) ⟨trivial, lk_cParse_2 N⟩
theorem p_cParse (N : Nat) (x0 : List UInt8) (r0 : List V) (r1 : Int) (h : s_cParse N x0 = some (r0, r1)) : PureRet Tryd.prog T 20 [.v (.str x0) .no] [.v (.sl 23 r0) .no, .v (.int .i64 r1) .no] :=
  pure_of (cx := cx_cParse N) (by kernel_rfl) (co_cParse N) Tryd.func20 (by kernel_rfl) (by kernel_rfl) (lo_cParse N) rfl rfl rfl (rf := r_cParse) ((s_cParse_ok N x0).trans h) (fun rs' m h => by
    unfold r_cParse at h
    split at h
    · cases h; exact ⟨rfl, rfl⟩
    · cases h)
end Go.Proofs.YtjpmogajlnkihaaDoor.En

/- The printed functions, together. -/

/- Which instructions are valid: the program and the reference. -/
namespace Go.Proofs.YtjpmogajlnkihaaDoor.En
open Go
set_option linter.unusedVariables false
section
variable (N : Nat) {R : Type}
theorem formOf_tab : ∀ k : Fin 54, s_formOf 0 (k.val : Int) = some (fA (k.val : Int), fB (k.val : Int), fC (k.val : Int)) := by decide +kernel
theorem formOf_eq {op : Int} (h0 : 0 ≤ op) (h1 : op < 54) : s_formOf N op = some (fA op, fB op, fC op) :=
  each54 (P := fun op => s_formOf 0 op = some (fA op, fB op, fC op)) formOf_tab h0 h1
theorem limits_eq (f p : Int) : s_limits N f p = some (lim f p) := by
  unfold s_limits lim
  simp only [br_dec, apply_ite some]
theorem oe_two {f n p : Int} (h0 : f ≠ 0) (a : n < (lim f p).1 ∨ (lim f p).2 < n) (c : ¬ (f = 5 ∧ n = 255)) : oe f n p = 2 := by
  unfold oe; rw [if_neg h0, if_pos ⟨a, c⟩]
theorem oe_zero {f n p : Int} (h0 : f ≠ 0) (h : ¬ ((n < (lim f p).1 ∨ (lim f p).2 < n) ∧ ¬ (f = 5 ∧ n = 255))) : oe f n p = 0 := by
  unfold oe; rw [if_neg h0, if_neg h]
noncomputable def stO (f n p : Int) (K0 : Int → Option R) (L : Option R) : Option R :=
  br (decide (f = 0)) (br (!decide (n = 0)) (K0 4) L) (bnd2 (s_limits N f p) fun lo hi =>
    br (decide (n < lo)) (br (decide (f = 5)) (br (!decide (n = 255)) (K0 2) L) (K0 2)) (br (decide (hi < n)) (br (decide (f = 5)) (br (!decide (n = 255)) (K0 2) L) (K0 2)) L))
theorem stO_eq (f n p : Int) (K0 : Int → Option R) (L : Option R) : stO N f n p K0 L = if oe f n p = 0 then L else K0 (oe f n p) := by
  unfold stO
  rw [limits_eq]
  simp only [br_dec, br_not]
  by_cases c0 : f = 0
  · subst c0
    rw [if_pos rfl]
    unfold oe
    rw [if_pos rfl]
    by_cases c : n = 0
    · rw [if_pos c, if_pos c, if_pos rfl]
    · rw [if_neg c, if_neg c, if_neg (by decide)]
  rw [if_neg c0]
  show (if n < (lim f p).1 then (if f = 5 then (if n = 255 then L else K0 2) else K0 2) else if (lim f p).2 < n then (if f = 5 then (if n = 255 then L else K0 2) else K0 2) else L) = _
  by_cases a : n < (lim f p).1 ∨ (lim f p).2 < n
  · have e : (if n < (lim f p).1 then (if f = 5 then (if n = 255 then L else K0 2) else K0 2) else if (lim f p).2 < n then (if f = 5 then (if n = 255 then L else K0 2) else K0 2) else L) = (if f = 5 then (if n = 255 then L else K0 2) else K0 2) := by
      by_cases a1 : n < (lim f p).1
      · rw [if_pos a1]
      · rw [if_neg a1, if_pos (a.resolve_left a1)]
    rw [e]
    by_cases c : f = 5 ∧ n = 255
    · rw [if_pos c.1, if_pos c.2, oe_zero c0 (fun h => h.2 c), if_pos rfl]
    · rw [oe_two c0 a c, if_neg (show ¬ (2 : Int) = 0 by decide)]
      by_cases c1 : f = 5
      · rw [if_pos c1, if_neg (fun h => c ⟨c1, h⟩)]
      · rw [if_neg c1]
  · rw [if_neg (fun h => a (Or.inl h)), if_neg (fun h => a (Or.inr h)), oe_zero c0 (fun h => a h.1), if_pos rfl]
theorem cCheck_eq (hN : 10 < N) (i : In) : s_cCheck N i.op i.a i.b i.c = some (chk i) := by
  obtain ⟨t, ht⟩ : ∃ t, N = t + 4 := ⟨N - 4, by omega⟩
  unfold s_cCheck chk
  simp only [br_dec]
  by_cases h0 : i.op < 0
  · rw [if_pos h0, if_pos h0]
  rw [if_neg h0, if_neg h0]
  by_cases h1 : 54 ≤ i.op
  · rw [if_pos h1, if_pos h1]
  rw [if_neg h1, if_neg h1, formOf_eq N (by omega) (by omega)]
  show S_cCheck_5 N (fA i.op) (fB i.op) (fC i.op) i.op i.a i.b i.c i.a i.b i.c N 0 (fun n6 => some n6) (some 0) = _
  have e3 : ∀ u, S_cCheck_5 N (fA i.op) (fB i.op) (fC i.op) i.op i.a i.b i.c i.a i.b i.c (u + 1) 3 (fun n6 => some n6) (some 0) = some 0 := fun u => id rfl
  have e2 : ∀ u, S_cCheck_5 N (fA i.op) (fB i.op) (fC i.op) i.op i.a i.b i.c i.a i.b i.c (u + 1) 2 (fun n6 => some n6) (some 0) = stO N (fC i.op) i.c i.a (fun n6 => some n6) (S_cCheck_5 N (fA i.op) (fB i.op) (fC i.op) i.op i.a i.b i.c i.a i.b i.c u 3 (fun n6 => some n6) (some 0)) := fun u => id rfl
  have e1 : ∀ u, S_cCheck_5 N (fA i.op) (fB i.op) (fC i.op) i.op i.a i.b i.c i.a i.b i.c (u + 1) 1 (fun n6 => some n6) (some 0) = stO N (fB i.op) i.b i.a (fun n6 => some n6) (S_cCheck_5 N (fA i.op) (fB i.op) (fC i.op) i.op i.a i.b i.c i.a i.b i.c u 2 (fun n6 => some n6) (some 0)) := fun u => id rfl
  have e0 : ∀ u, S_cCheck_5 N (fA i.op) (fB i.op) (fC i.op) i.op i.a i.b i.c i.a i.b i.c (u + 1) 0 (fun n6 => some n6) (some 0) = stO N (fA i.op) i.a i.a (fun n6 => some n6) (S_cCheck_5 N (fA i.op) (fB i.op) (fC i.op) i.op i.a i.b i.c i.a i.b i.c u 1 (fun n6 => some n6) (some 0)) := fun u => id rfl
  have key : ∀ u, S_cCheck_5 N (fA i.op) (fB i.op) (fC i.op) i.op i.a i.b i.c i.a i.b i.c (u + 4) 0 (fun n6 => some n6) (some 0) = some (if oe (fA i.op) i.a i.a = 0 then (if oe (fB i.op) i.b i.a = 0 then oe (fC i.op) i.c i.a else oe (fB i.op) i.b i.a) else oe (fA i.op) i.a i.a) := by
    intro u
    rw [e0, e1, e2, e3, stO_eq, stO_eq, stO_eq]
    by_cases a : oe (fA i.op) i.a i.a = 0
    · rw [if_pos a, if_pos a]
      by_cases b : oe (fB i.op) i.b i.a = 0
      · rw [if_pos b, if_pos b]
        by_cases c : oe (fC i.op) i.c i.a = 0
        · rw [if_pos c, c]
        · rw [if_neg c]
      · rw [if_neg b, if_neg b]
    · rw [if_neg a, if_neg a]
  have := key t
  rw [← ht] at this
  exact this
end
end Go.Proofs.YtjpmogajlnkihaaDoor.En

/- Instructions encoded: the program and the reference. -/
namespace Go.Proofs.YtjpmogajlnkihaaDoor.En
open Go
set_option linter.unusedVariables false
def iV (i : In) : V := .agg [.int .i64 i.op, .int .i64 i.a, .int .i64 i.b, .int .i64 i.c]
def iE : List In → List V
  | [] => []
  | i :: l => iV i :: iE l
theorem iE_len : ∀ l : List In, (iE l).length = l.length
  | [] => rfl
  | r :: l => by simp [iE, iE_len l]
theorem iE_append : ∀ a b : List In, iE (a ++ b) = iE a ++ iE b
  | [], b => rfl
  | r :: a, b => by simp [iE, iE_append a b]
theorem midV (pre : List V) (x : V) (suf : List V) : pre ++ x :: suf = (pre ++ [x]) ++ suf := by simp
theorem stepV (pre : List V) (x : V) (suf : List V) (h : pre.length + (suf.length + 1) ≤ 9223372036854775807) :
    (pre.length : Int) < ((pre ++ x :: suf).length : Int) ∧ (0 : Int) ≤ pre.length ∧ IntKind.i64.wrap ((pre.length : Int) + 1) = ((pre ++ [x]).length : Int) := by
  refine ⟨by simp; omega, by omega, ?_⟩
  rw [w64 (by omega) (by omega)]; simp
theorem endV (pre : List V) : ¬ ((pre.length : Int) < ((pre ++ ([] : List V)).length : Int)) := by simp
theorem shr16 (a : Int) : shrI .i64 a 16 = a / 65536 := by
  show a.fdiv (2 ^ (min (16 : Int).toNat 64)) = _
  exact fdiv_pos a 65536 (by omega)
theorem shr24 (a : Int) : shrI .i64 a 24 = a / 16777216 := by
  show a.fdiv (2 ^ (min (24 : Int).toNat 64)) = _
  exact fdiv_pos a 16777216 (by omega)
theorem byteI_def (n : Int) : UInt8.ofNat (n % 256).toNat = byteI n := id rfl
section
variable (N : Nat) {R : Type}
noncomputable def stE (f n : Int) (l0 : List UInt8) (L : List UInt8 → Option R) : Option R :=
  br (decide (f = 0)) (L l0) (br (decide (f = 1))
    (br (decide ((l0.length + [UInt8.ofNat (IntKind.u8.wrap (shrI IntKind.i64 n 24)).toNat, UInt8.ofNat (IntKind.u8.wrap (shrI IntKind.i64 n 16)).toNat, UInt8.ofNat (IntKind.u8.wrap (shrI IntKind.i64 n 8)).toNat, UInt8.ofNat (IntKind.u8.wrap n).toNat].length) * 1 ≤ 140737488355328))
      (L (l0 ++ [UInt8.ofNat (IntKind.u8.wrap (shrI IntKind.i64 n 24)).toNat, UInt8.ofNat (IntKind.u8.wrap (shrI IntKind.i64 n 16)).toNat, UInt8.ofNat (IntKind.u8.wrap (shrI IntKind.i64 n 8)).toNat, UInt8.ofNat (IntKind.u8.wrap n).toNat])) none)
    (br (decide ((l0.length + [UInt8.ofNat (IntKind.u8.wrap n).toNat].length) * 1 ≤ 140737488355328)) (L (l0 ++ [UInt8.ofNat (IntKind.u8.wrap n).toNat])) none))
theorem stE_eq (f n : Int) (l0 : List UInt8) (L : List UInt8 → Option R) (h : l0.length ≤ 1000000) : stE f n l0 L = L (l0 ++ encO f n) := by
  unfold stE encO
  simp only [br_dec, wu8, shr8, shr16, shr24, byteI_def]
  by_cases c0 : f = 0
  · rw [if_pos c0, if_pos c0, List.append_nil]
  rw [if_neg c0, if_neg c0]
  by_cases c1 : f = 1
  · rw [if_pos c1, if_pos c1, if_pos (by simp; omega)]
  · rw [if_neg c1, if_neg c1, if_pos (by simp; omega)]
theorem encO_le (f n : Int) : (encO f n).length ≤ 4 := by
  rw [encO_len]; unfold wid
  split
  · omega
  · split <;> omega
theorem cEnc_in (hN : 10 < N) (vs1 : List V) (n2 n3 f g h m1 m2 m3 m4 a b c : Int) (l0 : List UInt8) (K0 : List UInt8 → Option R) (hl : l0.length ≤ 900000) :
    S_cEncode_13 N vs1 n2 n3 f g h m1 m2 m3 m4 a b c N l0 0 K0 = K0 (l0 ++ (encO f a ++ (encO g b ++ encO h c))) := by
  obtain ⟨t, ht⟩ : ∃ t, N = t + 4 := ⟨N - 4, by omega⟩
  have e3 : ∀ u l, S_cEncode_13 N vs1 n2 n3 f g h m1 m2 m3 m4 a b c (u + 1) l 3 K0 = K0 l := fun u l => id rfl
  have e2 : ∀ u l, S_cEncode_13 N vs1 n2 n3 f g h m1 m2 m3 m4 a b c (u + 1) l 2 K0 = stE h c l fun l => S_cEncode_13 N vs1 n2 n3 f g h m1 m2 m3 m4 a b c u l 3 K0 := fun u l => id rfl
  have e1 : ∀ u l, S_cEncode_13 N vs1 n2 n3 f g h m1 m2 m3 m4 a b c (u + 1) l 1 K0 = stE g b l fun l => S_cEncode_13 N vs1 n2 n3 f g h m1 m2 m3 m4 a b c u l 2 K0 := fun u l => id rfl
  have e0 : ∀ u l, S_cEncode_13 N vs1 n2 n3 f g h m1 m2 m3 m4 a b c (u + 1) l 0 K0 = stE f a l fun l => S_cEncode_13 N vs1 n2 n3 f g h m1 m2 m3 m4 a b c u l 1 K0 := fun u l => id rfl
  have hf := encO_le f a
  have hg := encO_le g b
  have key : ∀ u, S_cEncode_13 N vs1 n2 n3 f g h m1 m2 m3 m4 a b c (u + 4) l0 0 K0 = K0 (l0 ++ (encO f a ++ (encO g b ++ encO h c))) := by
    intro u
    rw [e0, stE_eq _ _ _ _ (by omega), e1, stE_eq _ _ _ _ (by simp; omega), e2, stE_eq _ _ _ _ (by simp; omega), e3]
    simp only [List.append_assoc]
  have := key t
  rw [← ht] at this
  exact this
theorem encI_le (i : In) : (encI i).length ≤ 13 := by
  have h1 := encO_le (fA i.op) i.a
  have h2 := encO_le (fB i.op) i.b
  have h3 := encO_le (fC i.op) i.c
  unfold encI; simp; omega
theorem encAll_le : ∀ l : List In, (encAll l).length ≤ 13 * l.length
  | [] => by simp [encAll]
  | i :: l => by
    have := encI_le i
    have := encAll_le l
    simp [encAll]; omega
theorem cEnc_loop (hN : 10 < N) : ∀ (l : List In) (pre : List V) (t : Nat) (out : List UInt8), l.length < t → pre.length + l.length ≤ 60000 → out.length + 13 * l.length ≤ 800000 →
    S_cEncode_5 N (pre ++ iE l) ((pre ++ iE l).length : Int) t out (pre.length : Int) (fun l0 n1 l2 => some (l0, n1)) (fun l3 => some (l3, 0)) = some (if firstE l = 0 then (out ++ encAll l, (0 : Int)) else ([], firstE l))
  | l, pre, 0, out, ht, _, _ => by omega
  | [], pre, t + 1, out, ht, _, _ => by
    unfold S_cEncode_5 F_cEncode_5
    simp only [iE, br_t, br_f, br_dec, br_not, br_and, br_or, bnd1_mk, bnd2_mk, bnd3_mk, bnd4_mk, bnd5_mk, bnd10_mk, at_zero, at_succ, at_mid, unInt_mk, unBool_mk, unStr_mk, unBytes_mk, unSl_mk, unAgg_mk, unCons_mk, unNil_mk, endV, if_false, firstE, if_true, encAll, List.append_nil]
    simp
  | i :: l, pre, t + 1, out, ht, hl, ho => by
    simp only [List.length_cons] at ht hl ho
    obtain ⟨h1, h2, h3⟩ := stepV pre (iV i) (iE l) (by rw [iE_len]; omega)
    have hb := encI_le i
    have ih := cEnc_loop hN l (pre ++ [iV i]) t (out ++ encI i) (by omega) (by simp; omega) (by simp; omega)
    rw [← midV, ← h3] at ih
    unfold S_cEncode_5 F_cEncode_5
    simp only [iE, br_t, br_f, br_dec, br_not, br_and, br_or, bnd1_mk, bnd2_mk, bnd3_mk, bnd4_mk, bnd5_mk, bnd10_mk, at_zero, at_succ, at_mid, unInt_mk, unBool_mk, unStr_mk, unBytes_mk, unSl_mk, unAgg_mk, unCons_mk, unNil_mk, h1, h2, if_true, Int.toNat_natCast]
    show V.unAgg (iV i) _ = _
    unfold iV
    simp only [br_t, br_f, br_dec, br_not, br_and, br_or, bnd1_mk, bnd2_mk, bnd3_mk, bnd4_mk, bnd5_mk, bnd10_mk, at_zero, at_succ, at_mid, unInt_mk, unBool_mk, unStr_mk, unBytes_mk, unSl_mk, unAgg_mk, unCons_mk, unNil_mk, cCheck_eq N hN i]
    by_cases c : chk i = 0
    · obtain ⟨r0, r1⟩ := chk_range c
      rw [if_pos c, if_pos (by simp; omega), formOf_eq N r0 r1]
      unfold s_operands
      simp only [bnd3_mk]
      rw [cEnc_in N hN _ _ _ _ _ _ _ _ _ _ _ _ _ _ _ (by simp; omega)]
      have e : out ++ [UInt8.ofNat (IntKind.u8.wrap i.op).toNat] ++ (encO (fA i.op) i.a ++ (encO (fB i.op) i.b ++ encO (fC i.op) i.c)) = out ++ encI i := by
        rw [wu8, byteI_def]; unfold encI; simp
      rw [e]
      unfold iV at ih
      rw [ih]
      simp only [firstE, c, if_true, encAll, List.append_assoc]
    · rw [if_neg c]
      simp only [firstE, c, if_false]
theorem cEncode_eq (hN : 10 < N) (l : List In) (hl : l.length < N) (h2 : l.length ≤ 50000) : s_cEncode N (iE l) = some (encL l) := by
  unfold s_cEncode encL
  rw [br_dec, iE_len]
  by_cases c : 256 < l.length
  · rw [if_pos (by omega), if_pos c]
  rw [if_neg (by omega), if_neg c]
  have := cEnc_loop N hN l [] N [] hl (by simpa using by omega) (by simpa using by omega)
  rw [List.nil_append, iE_len] at this
  rw [show ((([] : List V).length : Nat) : Int) = 0 by rfl] at this
  rw [this]
  simp
/-! The reference -/
end
end Go.Proofs.YtjpmogajlnkihaaDoor.En

/- Instructions decoded: the program and the reference. -/
namespace Go.Proofs.YtjpmogajlnkihaaDoor.En
open Go
set_option linter.unusedVariables false
section
variable (N : Nat) {R : Type}
def decV (p : List In × Int) : List V × Int := (iE p.1, p.2)
theorem iV_def (i : In) : V.agg [V.int IntKind.i64 i.op, V.int IntKind.i64 i.a, V.int IntKind.i64 i.b, V.int IntKind.i64 i.c] = iV i := id rfl
theorem iE_snoc (l : List In) (i : In) : iE l ++ [iV i] = iE (l ++ [i]) := by rw [iE_append]; rfl
/-! The reference -/
end
end Go.Proofs.YtjpmogajlnkihaaDoor.En

/- Instructions as text: the program and the reference. -/
namespace Go.Proofs.YtjpmogajlnkihaaDoor.En
open Go
set_option linter.unusedVariables false
theorem wordT_len (f n : Int) : (wordT f n).length ≤ 21 := by
  unfold wordT
  split
  · decide
  · split
    · have h : ∀ k, (kindsL.getD k []).length ≤ 21 := by
        intro k
        match k with
        | 0 => decide
        | 1 => decide
        | 2 => decide
        | k + 3 => simp [kindsL]
      exact h _
    · exact itoaF_len n
theorem nameT_len (op : Int) : (nameT op).length ≤ 20 := namesL_len _
theorem partT_len (f n : Int) : (partT f n).length ≤ 22 := by
  have := wordT_len f n
  unfold partT
  split <;> simp <;> omega
theorem lineT_len (i : In) : (lineT i).length ≤ 86 := by
  have := nameT_len i.op
  have := partT_len (fA i.op) i.a
  have := partT_len (fB i.op) i.b
  have := partT_len (fC i.op) i.c
  unfold lineT; simp; omega
section
variable (N : Nat) {R : Type}
theorem kind_words (n : Int) (h : n = 2 ∨ n = 3 ∨ n = 4) : s_word N 7 n = some (wordT 7 n) ∧ s_rword N 7 n = some (wordT 7 n) := by
  rcases h with rfl | rfl | rfl <;> exact ⟨rfl, rfl⟩
theorem word_eq {f n p : Int} (h : oe f n p = 0) : s_word N f n = some (wordT f n) := by
  by_cases c7 : f = 7
  · subst c7
    have := oe_kind h
    exact (kind_words N n (by omega)).1
  unfold s_word wordT s_Itoa
  simp only [br_dec, bnd1_mk, c7, if_false]
  by_cases c5 : f = 5
  · by_cases cn : n = 255
    · rw [if_pos c5, if_pos cn, if_pos ⟨c5, cn⟩]; rfl
    · rw [if_pos c5, if_neg cn, if_neg (fun q => cn q.2)]
  · rw [if_neg c5, if_neg (fun q => c5 q.1)]
theorem write_eq (x y : List UInt8) (h : y.length + x.length ≤ 1000000) : s_WriteString N x y = some ((x.length : Int), y ++ x) := by
  unfold s_WriteString C_WriteString s_copyCheck
  rw [bnd1_mk, br_dec, if_pos (by omega)]
noncomputable def stT (f n : Int) (l : List UInt8) (L : List UInt8 → Option R) : Option R :=
  br (decide (f = 0)) (L l) (bnd1 (s_joined N f) fun b => br b
    (bnd1 (s_word N f n) fun l1 => br (decide (1 + l1.length ≤ 9223372036854775807)) (bnd2 (s_WriteString N (46 :: [].append l1) l) fun _ l3 => L l3) none)
    (bnd1 (s_word N f n) fun l1 => br (decide (1 + l1.length ≤ 9223372036854775807)) (bnd2 (s_WriteString N (32 :: [].append l1) l) fun _ l3 => L l3) none))
theorem stT_eq {f n p : Int} (h : oe f n p = 0) (l : List UInt8) (L : List UInt8 → Option R) (hl : l.length ≤ 900000) : stT N f n l L = L (l ++ partT f n) := by
  unfold stT partT
  rw [br_dec]
  by_cases c0 : f = 0
  · rw [if_pos c0, if_pos c0, List.append_nil]
  rw [if_neg c0, if_neg c0, word_eq N h]
  have hw := wordT_len f n
  have hj : s_joined N f = some (decide (f = 6 ∨ f = 11)) := by
    unfold s_joined
    rw [br_dec]
    by_cases c6 : f = 6
    · rw [if_pos c6, decide_eq_true (Or.inl c6)]
    · rw [if_neg c6]; congr 1; rw [decide_eq_decide]; omega
  rw [hj, bnd1_mk]
  unfold sepB
  by_cases c : f = 6 ∨ f = 11
  · rw [decide_eq_true c, br_t, bnd1_mk, br_dec, if_pos (by omega), if_pos c]
    show (bnd2 (s_WriteString N (46 :: wordT f n) l) fun _ l3 => L l3) = _
    rw [write_eq N _ _ (by simp <;> omega), bnd2_mk]
  · rw [decide_eq_false c, br_f, bnd1_mk, br_dec, if_pos (by omega), if_neg c]
    show (bnd2 (s_WriteString N (32 :: wordT f n) l) fun _ l3 => L l3) = _
    rw [write_eq N _ _ (by simp <;> omega), bnd2_mk]
theorem cText_in (hN : 10 < N) (vs0 vs1 : List V) (n2 n3 f g h m1 m2 m3 m4 a b c p : Int) (l0 : List UInt8) (K0 : List UInt8 → Option R) (hl : l0.length ≤ 800000) (ha : oe f a p = 0) (hb : oe g b p = 0) (hc : oe h c p = 0) :
    S_cText_12 N vs0 vs1 n2 n3 f g h m1 m2 m3 m4 a b c N 0 l0 K0 = K0 (l0 ++ (partT f a ++ (partT g b ++ partT h c))) := by
  obtain ⟨t, ht⟩ : ∃ t, N = t + 4 := ⟨N - 4, by omega⟩
  have e3 : ∀ u l, S_cText_12 N vs0 vs1 n2 n3 f g h m1 m2 m3 m4 a b c (u + 1) 3 l K0 = K0 l := fun u l => id rfl
  have e2 : ∀ u l, S_cText_12 N vs0 vs1 n2 n3 f g h m1 m2 m3 m4 a b c (u + 1) 2 l K0 = stT N h c l fun l => S_cText_12 N vs0 vs1 n2 n3 f g h m1 m2 m3 m4 a b c u 3 l K0 := fun u l => id rfl
  have e1 : ∀ u l, S_cText_12 N vs0 vs1 n2 n3 f g h m1 m2 m3 m4 a b c (u + 1) 1 l K0 = stT N g b l fun l => S_cText_12 N vs0 vs1 n2 n3 f g h m1 m2 m3 m4 a b c u 2 l K0 := fun u l => id rfl
  have e0 : ∀ u l, S_cText_12 N vs0 vs1 n2 n3 f g h m1 m2 m3 m4 a b c (u + 1) 0 l K0 = stT N f a l fun l => S_cText_12 N vs0 vs1 n2 n3 f g h m1 m2 m3 m4 a b c u 1 l K0 := fun u l => id rfl
  have hf := partT_len f a
  have hg := partT_len g b
  have key : ∀ u, S_cText_12 N vs0 vs1 n2 n3 f g h m1 m2 m3 m4 a b c (u + 4) 0 l0 K0 = K0 (l0 ++ (partT f a ++ (partT g b ++ partT h c))) := by
    intro u
    rw [e0, stT_eq N ha _ _ (by omega), e1, stT_eq N hb _ _ (by simp <;> omega), e2, stT_eq N hc _ _ (by simp <;> omega), e3]
    simp only [List.append_assoc]
  have := key t
  rw [← ht] at this
  exact this
theorem names_eq : s_names N = some (namesL.map V.str) := by
  unfold s_names s_Fields
  rw [namesL_eq]
  kernel_rfl
theorem names_at {op : Int} (h0 : 0 ≤ op) (h1 : op < 54) (K : V → Option R) : at? (namesL.map V.str) op.toNat K = K (.str (nameT op)) := by
  have hk : op.toNat < namesL.length := by show op.toNat < 54; omega
  refine at_of ?_ K
  rw [List.getElem?_map, List.getElem?_eq_getElem hk]
  simp [nameT, List.getD, hk]
theorem cText_loop (hN : 10 < N) : ∀ (l : List In) (pre : List V) (t : Nat) (out : List UInt8), l.length < t → pre.length + l.length ≤ 60000 → out.length + 100 * l.length ≤ 700000 → firstE l = 0 →
    S_cText_7 N (namesL.map V.str) (pre ++ iE l) ((pre ++ iE l).length : Int) t (pre.length : Int) out (fun l3 => some l3) = some (out ++ textAll l)
  | l, pre, 0, out, ht, _, _, _ => by omega
  | [], pre, t + 1, out, ht, _, _, _ => by
    unfold S_cText_7 F_cText_7
    rw [br_dec, if_neg (by simp [iE])]
    simp [textAll]
  | i :: l, pre, t + 1, out, ht, hl, ho, hf => by
    simp only [List.length_cons] at ht hl ho
    obtain ⟨f1, f2⟩ := firstE_cons hf
    obtain ⟨r0, r1⟩ := chk_range f1
    obtain ⟨ha, hb, hc⟩ := chk_parts f1
    obtain ⟨h1, h2, h3⟩ := stepV pre (iV i) (iE l) (by rw [iE_len]; omega)
    have hll := lineT_len i
    have hnl := nameT_len i.op
    have ih := cText_loop hN l (pre ++ [iV i]) t (out ++ (lineT i ++ [10])) (by omega) (by simp <;> omega) (by simp <;> omega) f2
    rw [← midV, ← h3] at ih
    unfold S_cText_7 F_cText_7
    simp only [iE, br_t, br_f, br_dec, br_not, br_and, br_or, bnd1_mk, bnd2_mk, bnd3_mk, bnd4_mk, bnd5_mk, bnd10_mk, at_zero, at_succ, at_mid, unInt_mk, unBool_mk, unStr_mk, unBytes_mk, unSl_mk, unAgg_mk, unCons_mk, unNil_mk, h1, h2, if_true, Int.toNat_natCast]
    show V.unAgg (iV i) _ = _
    unfold iV
    simp only [br_t, br_f, br_dec, br_not, br_and, br_or, bnd1_mk, bnd2_mk, bnd3_mk, bnd4_mk, bnd5_mk, bnd10_mk, at_zero, at_succ, at_mid, unInt_mk, unBool_mk, unStr_mk, unBytes_mk, unSl_mk, unAgg_mk, unCons_mk, unNil_mk]
    rw [if_pos r0, if_pos (by simp [namesL]; omega), names_at r0 r1, unStr_mk, write_eq N _ _ (by omega), bnd2_mk, formOf_eq N r0 r1]
    unfold s_operands
    simp only [bnd3_mk]
    rw [cText_in N hN _ _ _ _ _ _ _ _ _ _ _ _ _ _ _ _ _ (by simp <;> omega) ha hb hc]
    have e : out ++ nameT i.op ++ (partT (fA i.op) i.a ++ (partT (fB i.op) i.b ++ partT (fC i.op) i.c)) = out ++ lineT i := by unfold lineT; simp
    rw [e, write_eq N _ _ (by simp <;> omega), bnd2_mk, List.append_assoc]
    unfold iV at ih
    rw [ih]
    simp [textAll]
theorem cText_eq (hN : 10 < N) (l : List In) (hl : l.length < N) (h2 : l.length ≤ 50000) : s_cText N (iE l) = some (textL l) := by
  unfold s_cText textL
  rw [cEncode_eq N hN l hl h2]
  rcases he : encL l with ⟨x, e⟩
  simp only [bnd2_mk, br_not, br_dec]
  by_cases c : e = 0
  · rw [if_pos c, if_pos c, names_eq, bnd1_mk]
    have hf : l.length ≤ 256 ∧ firstE l = 0 := by
      unfold encL at he
      split at he
      · injection he with _ he; omega
      · split at he
        · exact ⟨by omega, by assumption⟩
        · rename_i h; injection he with _ he; omega
    have := cText_loop N hN l [] N [] hl (by simpa using by omega) (by simpa using by omega) hf.2
    rw [List.nil_append, List.nil_append, iE_len] at this
    rw [show ((([] : List V).length : Nat) : Int) = 0 by rfl] at this
    rw [iE_len]
    exact this
  · rw [if_neg c, if_neg c]
/-! The reference -/
end
end Go.Proofs.YtjpmogajlnkihaaDoor.En

/- Texts read as instructions: the program. -/
namespace Go.Proofs.YtjpmogajlnkihaaDoor.En
open Go
set_option linter.unusedVariables false
def sL (l : List (List UInt8)) : List V := l.map V.str
theorem sL_cons (w : List UInt8) (l : List (List UInt8)) : sL (w :: l) = V.str w :: sL l := id rfl
theorem sL_len (l : List (List UInt8)) : (sL l).length = l.length := by simp [sL]
def idxI (w : List UInt8) (l : List (List UInt8)) : Int := match idxN w l with | some k => (k : Int) | none => -1
section
variable (N : Nat) {R : Type}
theorem index_loop (w : List UInt8) (K0 : Int → Option R) (K1 : Option R) : ∀ (l : List (List UInt8)) (pre : List V) (t : Nat), l.length < t → pre.length + l.length ≤ 1000000 →
    S_IndexS_2 N (pre ++ sL l) w ((pre ++ sL l).length : Int) t (pre.length : Int) K0 K1 = match idxN w l with | some k => K0 ((pre.length + k : Nat) : Int) | none => K1
  | l, pre, 0, ht, _ => by omega
  | [], pre, t + 1, ht, _ => by
    unfold S_IndexS_2 F_IndexS_2
    rw [br_dec, if_neg (by simp [sL])]; rfl
  | x :: l, pre, t + 1, ht, hl => by
    simp only [List.length_cons] at ht hl
    obtain ⟨h1, h2, h3⟩ := stepV pre (.str x) (sL l) (by rw [sL_len]; omega)
    have ih := index_loop w K0 K1 l (pre ++ [.str x]) t (by omega) (by simp <;> omega)
    rw [← midV, ← h3] at ih
    unfold S_IndexS_2 F_IndexS_2 idxN
    simp only [sL_cons, br_t, br_f, br_dec, br_not, br_and, br_or, bnd1_mk, bnd2_mk, bnd3_mk, bnd4_mk, bnd5_mk, bnd10_mk, at_zero, at_succ, at_mid, unInt_mk, unBool_mk, unStr_mk, unBytes_mk, unSl_mk, unAgg_mk, unCons_mk, unNil_mk, h1, h2, if_true, Int.toNat_natCast]
    by_cases c : x = w
    · subst c
      rw [if_pos rfl, if_pos rfl]; rfl
    · rw [if_neg (fun e => c e.symm), if_neg c, ih]
      cases idxN w l with
      | none => rfl
      | some k => simp only [Option.map_some]; congr 2; simp; omega
theorem index_eq (l : List (List UInt8)) (w : List UInt8) (h : l.length < N) (h2 : l.length ≤ 900000) : s_IndexS N (sL l) w = some (idxI w l) := by
  have := index_loop N w (fun n0 => some n0) (some (-1)) l [] N h (by simpa using by omega)
  rw [List.nil_append, show ((([] : List V).length : Nat) : Int) = 0 by rfl] at this
  unfold s_IndexS
  rw [this]
  unfold idxI
  cases idxN w l with
  | none => rfl
  | some k => simp
theorem kinds_sL : s_kinds N = some (sL kindsL) := id rfl
theorem idx_kinds (s : List UInt8) : idxI s kindsL = if s = [98, 121, 116, 101, 115] then 0 else if s = [105, 110, 116, 115] then 1 else if s = [114, 101, 102, 115] then 2 else -1 := by
  by_cases e1 : s = [98, 121, 116, 101, 115]
  · subst e1; rfl
  by_cases e2 : s = [105, 110, 116, 115]
  · subst e2; rfl
  by_cases e3 : s = [114, 101, 102, 115]
  · subst e3; rfl
  rw [if_neg e1, if_neg e2, if_neg e3]
  have h : idxN s kindsL = none := by
    unfold kindsL idxN
    rw [if_neg (fun e => e1 e.symm)]
    unfold idxN
    rw [if_neg (fun e => e2 e.symm)]
    unfold idxN
    rw [if_neg (fun e => e3 e.symm)]
    rfl
  unfold idxI
  rw [h]
theorem value_eq (hN : 10 < N) (f : Int) (s : List UInt8) (h : s.length ≤ 1000000) : s_value N f s = some (valW f s) := by
  unfold s_value valW
  rw [br_dec]
  by_cases c7 : f = 7
  · rw [if_pos c7, if_pos c7, kinds_sL, bnd1_mk, index_eq N kindsL s (by show 3 < N; omega) (by decide), bnd1_mk]
    rw [idx_kinds]
    by_cases e1 : s = [98, 121, 116, 101, 115]
    · rw [if_pos e1, if_pos e1]; rfl
    rw [if_neg e1, if_neg e1]
    by_cases e2 : s = [105, 110, 116, 115]
    · rw [if_pos e2, if_pos e2]; rfl
    rw [if_neg e2, if_neg e2]
    by_cases e3 : s = [114, 101, 102, 115]
    · rw [if_pos e3, if_pos e3]; rfl
    rw [if_neg e3, if_neg e3]
    rfl
  rw [if_neg c7, if_neg c7]
  have hn : s_number N s = some (numF s) := by
    unfold s_number
    rw [show Nat.ble s.length 1000000 = true by simpa using h]; rfl
  rw [hn]
  rcases hq : numF s with ⟨n, a, b⟩
  simp only [bnd3_mk, br_dec]
  show (if f = 5 then (if s = sysW then some (255, true, true) else _) else _) = _
  by_cases c5 : f = 5
  · by_cases cs : s = sysW
    · rw [if_pos c5, if_pos cs, if_pos ⟨c5, cs⟩]
    · rw [if_pos c5, if_neg cs, if_pos c5, if_neg (show ¬ (f = 5 ∧ s = sysW) from fun q => cs q.2)]
      by_cases cn : n = 255
      · rw [if_pos cn, if_pos ⟨c5, cn⟩]
      · rw [if_neg cn, if_neg (fun q => cn q.2)]
  · rw [if_neg c5, if_neg c5, if_neg (fun q => c5 q.1), if_neg (fun q => c5 q.1)]
theorem cut_eq (c : UInt8) (s : List UInt8) (h : s.length ≤ 1000000) : s_Cut N s [c] = some (cut1 c s) := by
  unfold s_Cut
  simp only
  rw [show Nat.ble s.length 1000000 = true by simpa using h]; rfl
theorem splitS_eq (c : UInt8) (s : List UInt8) (h : s.length ≤ 1000000) : s_Split N s [c] = some (sL (split1 c s)) := by
  unfold s_Split
  simp only
  rw [show Nat.ble s.length 1000000 = true by simpa using h]; rfl
/-- What is left when a word is taken. -/
noncomputable def stP (vs0 vs1 : List V) (P : List V → List V → Option R) : Option R :=
  br (decide (0 < (vs0.length : Int))) (at? vs0 0 fun x => x.unStr fun l => br (decide ((vs1.length + [V.str l].length) * 16 ≤ 140737488355328)) (br (decide (1 ≤ (vs0.length : Int))) (P (List.drop 1 vs0) (vs1 ++ [V.str l])) none) none) none
noncomputable def stJ (vs0 vs1 : List V) (F : Option R) (J : List V → List V → Option R) : Option R :=
  br (decide (0 < (vs0.length : Int))) (at? vs0 0 fun x => x.unStr fun l => bnd3 (s_Cut N l ([46] : List UInt8)) fun a c d => br (!d) F
    (br (decide ((vs1.length + [V.str a, V.str c].length) * 16 ≤ 140737488355328)) (br (decide (1 ≤ (vs0.length : Int))) (J (List.drop 1 vs0) (vs1 ++ [V.str a, V.str c])) none) none)) none
noncomputable def stW (f g : Int) (vs0 vs1 : List V) (F E : Option R) (J P : List V → List V → Option R) : Option R :=
  br (!decide (f = 0)) (br (decide ((vs0.length : Int) = 0)) F (bnd1 (s_joined N g) fun b => br b (stJ N vs0 vs1 F J) (stP vs0 vs1 P))) E
noncomputable def stL (f : Int) (vs0 vs1 : List V) (F E : Option R) (P : List V → List V → Option R) : Option R :=
  br (!decide (f = 0)) (br (decide ((vs0.length : Int) = 0)) F (stP vs0 vs1 P)) E
theorem stP_cons (w : List UInt8) (ws : List (List UInt8)) (vs1 : List V) (P : List V → List V → Option R) (h : vs1.length ≤ 1000000) (h2 : ws.length ≤ 1000000) : stP (sL (w :: ws)) vs1 P = P (sL ws) (vs1 ++ [V.str w]) := by
  unfold stP
  rw [sL_cons]
  simp only [br_t, br_f, br_dec, br_not, br_and, br_or, bnd1_mk, bnd2_mk, bnd3_mk, bnd4_mk, bnd5_mk, bnd10_mk, at_zero, at_succ, at_mid, unInt_mk, unBool_mk, unStr_mk, unBytes_mk, unSl_mk, unAgg_mk, unCons_mk, unNil_mk]
  have e1 : (0 : Int) < ((V.str w :: sL ws).length : Int) := by simp <;> omega
  have e2 : (1 : Int) ≤ ((V.str w :: sL ws).length : Int) := by simp <;> omega
  rw [if_pos e1, if_pos (by simp <;> omega), if_pos e2]
  rfl
theorem stJ_cons (w : List UInt8) (ws : List (List UInt8)) (vs1 : List V) (F : Option R) (J : List V → List V → Option R) (h : vs1.length ≤ 1000000) (hw : w.length ≤ 1000000) :
    stJ N (sL (w :: ws)) vs1 F J = match cut1 46 w with | (a, b, true) => J (sL ws) (vs1 ++ [V.str a, V.str b]) | (_, _, false) => F := by
  unfold stJ
  rw [sL_cons]
  have e1 : (0 : Int) < ((V.str w :: sL ws).length : Int) := by simp <;> omega
  have e2 : (1 : Int) ≤ ((V.str w :: sL ws).length : Int) := by simp <;> omega
  rw [br_dec, if_pos e1, at_zero, unStr_mk, cut_eq N 46 w hw]
  rcases cut1 46 w with ⟨a, b, d⟩
  cases d with
  | false => rfl
  | true =>
    simp only [bnd3_mk, br_not, br_t, br_dec]
    rw [if_pos (by simp <;> omega), if_pos e2]
    rfl
theorem joined_eq (f : Int) : s_joined N f = some (decide (f = 6 ∨ f = 11)) := by
  unfold s_joined
  rw [br_dec]
  by_cases c6 : f = 6
  · rw [if_pos c6, decide_eq_true (Or.inl c6)]
  · rw [if_neg c6]; congr 1; rw [decide_eq_decide]; omega
theorem words_jn {x y : Int} (z : Int) {w : List UInt8} (r : List (List UInt8)) {a b : List UInt8} (hx : x ≠ 0) (hy : y = 6 ∨ y = 11) (hc : cut1 46 w = (a, b, false)) : wordsW x y z (w :: r) = none := by
  unfold wordsW
  rw [if_neg hx, if_pos hy]
  simp only [hc]
/-- The words that a line's operands are, out of the words of the line. -/
def wordsR (o : Option (List (List UInt8))) (r : Option (List V × Bool)) : Prop := match o with | some l => r = some (sL l, true) | none => ∃ vs, r = some (vs, false)
theorem words_eq (hN : 10 < N) {x y z : Int} (hf : Fm x y z) (ws : List (List UInt8)) (hl : ws.length ≤ 1000000) (hb : ∀ w ∈ ws, w.length ≤ 1000000) : wordsR (wordsW x y z ws) (s_words N x y z (sL ws)) := by
  obtain ⟨t, ht⟩ : ∃ t, N = t + 4 := ⟨N - 4, by omega⟩
  have e3 : ∀ u vs0 vs1 (K0 : List V → List V → Bool → List V → Option (List V × Bool)) (K1 : List V → List V → Option (List V × Bool)), S_words_3 N x y z (u + 1) vs0 vs1 3 K0 K1 = K1 vs0 vs1 := fun u vs0 vs1 K0 K1 => id rfl
  have e2 : ∀ u vs0 vs1 (K0 : List V → List V → Bool → List V → Option (List V × Bool)) (K1 : List V → List V → Option (List V × Bool)), S_words_3 N x y z (u + 1) vs0 vs1 2 K0 K1 = stL z vs0 vs1 (K0 vs0 [] false vs1) (K1 vs0 vs1) fun a b => S_words_3 N x y z u a b 3 K0 K1 := fun u vs0 vs1 K0 K1 => id rfl
  have e1 : ∀ u vs0 vs1 (K0 : List V → List V → Bool → List V → Option (List V × Bool)) (K1 : List V → List V → Option (List V × Bool)), S_words_3 N x y z (u + 1) vs0 vs1 1 K0 K1 = stW N y z vs0 vs1 (K0 vs0 [] false vs1) (K1 vs0 vs1) (fun a b => S_words_3 N x y z u a b 3 K0 K1) fun a b => S_words_3 N x y z u a b 2 K0 K1 := fun u vs0 vs1 K0 K1 => id rfl
  have e0 : ∀ u vs0 vs1 (K0 : List V → List V → Bool → List V → Option (List V × Bool)) (K1 : List V → List V → Option (List V × Bool)), S_words_3 N x y z (u + 1) vs0 vs1 0 K0 K1 = stW N x y vs0 vs1 (K0 vs0 [] false vs1) (K1 vs0 vs1) (fun a b => S_words_3 N x y z u a b 2 K0 K1) fun a b => S_words_3 N x y z u a b 1 K0 K1 := fun u vs0 vs1 K0 K1 => id rfl
  have key : ∀ u, wordsR (wordsW x y z ws) (S_words_3 N x y z (u + 4) (sL ws) [] 0 (fun l0 l1 b2 l3 => some (l1, b2)) fun l4 l5 => some (l5, decide ((l4.length : Int) = 0))) := by
    intro u
    rw [e0]
    unfold stW
    rw [br_not, br_dec]
    by_cases x0 : x = 0
    · rw [if_pos x0]
      unfold wordsW
      rw [if_pos x0]
      cases ws with
      | nil => exact rfl
      | cons w ws => exact ⟨_, rfl⟩
    rw [if_neg x0]
    cases ws with
    | nil =>
      have : ∃ vs, br (decide (((sL []).length : Int) = 0)) (some (([] : List V), false)) (bnd1 (s_joined N y) fun b => br b (stJ N (sL []) [] (some (([] : List V), false)) fun a b => S_words_3 N x y z (u + 2 + 1) a b 2 (fun l0 l1 b2 l3 => some (l1, b2)) fun l4 l5 => some (l5, decide ((l4.length : Int) = 0))) (stP (sL []) [] fun a b => S_words_3 N x y z (u + 2 + 1) a b 1 (fun l0 l1 b2 l3 => some (l1, b2)) fun l4 l5 => some (l5, decide ((l4.length : Int) = 0)))) = some (vs, false) := ⟨[], rfl⟩
      have hw : wordsW x y z [] = none := by
        unfold wordsW
        rw [if_neg x0]
        split
        · rfl
        · split <;> rfl
      rw [hw]
      exact this
    | cons w ws =>
      have hb1 := hb w (by simp)
      simp only [List.length_cons] at hl
      have en : ¬ (((sL (w :: ws)).length : Int) = 0) := by rw [sL_len]; simp <;> omega
      rw [br_dec, if_neg en, joined_eq, bnd1_mk, br_dec]
      by_cases cj : y = 6 ∨ y = 11
      · rw [if_pos cj, stJ_cons N w ws [] _ _ (by simp) hb1]
        rcases hc : cut1 46 w with ⟨a, b, d⟩
        cases d with
        | false =>
          rw [words_jn z ws x0 cj hc]
          exact ⟨_, rfl⟩
        | true =>
          rw [words_j z ws x0 cj hc]
          simp only
          rw [e2]
          unfold stL
          rw [br_not, br_dec]
          by_cases z0 : z = 0
          · rw [if_pos z0, if_pos z0]
            cases ws with
            | nil => exact rfl
            | cons v ws => exact ⟨_, rfl⟩
          · rw [if_neg z0, if_neg z0]
            cases ws with
            | nil => exact ⟨_, rfl⟩
            | cons v ws =>
              have en : ¬ (((sL (v :: ws)).length : Int) = 0) := by rw [sL_len]; simp <;> omega
              simp only [List.length_cons] at hl
              rw [br_dec, if_neg en, stP_cons v ws _ _ (by simp) (by omega), e3]
              cases ws with
              | nil => exact rfl
              | cons v ws => exact ⟨_, rfl⟩
      · rw [if_neg cj, stP_cons w ws [] _ (by simp) (by omega), e1]
        unfold wordsW
        rw [if_neg x0, if_neg cj]
        unfold stW
        rw [br_not, br_dec]
        by_cases y0 : y = 0
        · rw [if_pos y0, if_pos y0]
          cases ws with
          | nil => exact rfl
          | cons v ws => exact ⟨_, rfl⟩
        · have hz : z = 0 := by
            rcases hf with ⟨h, _⟩ | ⟨_, _, h⟩ | ⟨_, h, _⟩ | ⟨_, h, _⟩
            · exact absurd h y0
            · exact h
            · exact absurd (Or.inl h) cj
            · exact absurd (Or.inr h) cj
          rw [if_neg y0, if_neg y0]
          cases ws with
          | nil => exact ⟨_, rfl⟩
          | cons v ws =>
            have en : ¬ (((sL (v :: ws)).length : Int) = 0) := by rw [sL_len]; simp <;> omega
            simp only [List.length_cons] at hl
            rw [br_dec, if_neg en, joined_eq, bnd1_mk, br_dec, if_neg (by omega), stP_cons v ws _ _ (by simp) (by omega), e2]
            unfold stL
            rw [br_not, br_dec, if_pos hz]
            cases ws with
            | nil => exact rfl
            | cons v ws => exact ⟨_, rfl⟩
  have := key t
  rw [← ht] at this
  exact this
theorem words_len {x y z : Int} {ws l : List (List UInt8)} (h : wordsW x y z ws = some l) (hb : ∀ w ∈ ws, w.length ≤ 1000000) : l.length ≤ 3 ∧ ∀ w ∈ l, w.length ≤ 1000000 := by
  unfold wordsW at h
  split at h
  · split at h
    · injection h with h; subst h; simp
    · cases h
  · split at h
    · split at h
      · rename_i w r
        have hb1 := hb w (by simp)
        have hc := cut1_len 46 w
        split at h
        · rename_i a b e
          rw [e] at hc
          simp only at hc
          split at h
          · split at h
            · injection h with h; subst h
              refine ⟨by simp, fun v hv => ?_⟩
              simp at hv
              rcases hv with rfl | rfl <;> omega
            · cases h
          · split at h
            · rename_i c
              injection h with h; subst h
              refine ⟨by simp, fun v hv => ?_⟩
              simp at hv
              rcases hv with rfl | rfl | rfl
              · omega
              · omega
              · exact hb _ (by simp)
            · cases h
        · cases h
      · cases h
    · split at h
      · split at h
        · injection h with h; subst h
          exact ⟨by simp, hb⟩
        · cases h
      · split at h
        · injection h with h; subst h
          exact ⟨by simp, hb⟩
        · cases h
noncomputable def stV (f : Int) (w : List UInt8) (b : Bool) (F : Option R) (L : Bool → Int → Option R) : Option R :=
  bnd3 (s_value N f w) fun n b3 b4 => br (!b3) F (br b (L b4 n) (L false n))
theorem stV_eq (hN : 10 < N) (f : Int) (w : List UInt8) (b : Bool) (F : Option R) (L : Bool → Int → Option R) (h : w.length ≤ 1000000) : stV N f w b F L = if (valW f w).2.1 = true then L (b && (valW f w).2.2) (valW f w).1 else F := by
  unfold stV
  rw [value_eq N hN f w h]
  rcases valW f w with ⟨n, c, d⟩
  cases c <;> cases b <;> rfl
def linT (p : In × Int) : Int × Int × Int × Int × Int := (p.1.op, p.1.a, p.1.b, p.1.c, p.2)
theorem lineV_eq (hN : 10 < N) (k : Int) (l : List (List UInt8)) (h3 : l.length ≤ 3) (hb : ∀ w ∈ l, w.length ≤ 1000000) :
    S_line_12 N k (sL l) ((sL l).length : Int) 0 0 0 0 (fA k) (fB k) (fC k) N true 0 0 0 0 (fun n10 b11 n12 n13 n14 n15 n16 n17 n18 => some (n12, n13, n14, n15, n10)) (fun b19 n20 n21 n22 =>
      br (!b19) (some (0, 0, 0, 0, 2)) (bnd1 (s_cCheck N k n20 n21 n22) fun n23 => some (k, n20, n21, n22, n23))) = some (linT (lineV k l)) := by
  obtain ⟨t, ht⟩ : ∃ t, N = t + 4 := ⟨N - 4, by omega⟩
  generalize hx : fA k = x
  generalize hy : fB k = y
  generalize hz : fC k = z
  generalize hK0 : (fun n10 b11 n12 n13 n14 n15 n16 n17 n18 => some (n12, n13, n14, n15, n10) : Int → Bool → Int → Int → Int → Int → Int → Int → Int → Option (Int × Int × Int × Int × Int)) = K0
  generalize hK1 : (fun b19 n20 n21 n22 => br (!b19) (some (0, 0, 0, 0, 2)) (bnd1 (s_cCheck N k n20 n21 n22) fun n23 => some (k, n20, n21, n22, n23)) : Bool → Int → Int → Int → Option (Int × Int × Int × Int × Int)) = K1
  have k0 : ∀ b p q s, K0 30 b 0 0 0 0 p q s = some (linT (zI, 30)) := by intro b p q s; rw [← hK0]; rfl
  have k1 : ∀ b p q s, K1 b p q s = some (linT (if b = true then (⟨k, p, q, s⟩, chk ⟨k, p, q, s⟩) else (zI, 2))) := by
    intro b p q s
    rw [← hK1]
    simp only
    cases b with
    | false => rfl
    | true =>
      rw [show s_cCheck N k p q s = _ from cCheck_eq N hN ⟨k, p, q, s⟩]
      rfl
  unfold lineV
  rw [hx, hy, hz]
  have key : ∀ u, S_line_12 N k (sL l) ((sL l).length : Int) 0 0 0 0 x y z (u + 4) true 0 0 0 0 K0 K1 = some (linT (match valsW [x, y, z] l with
      | none => (zI, 30)
      | some (l, fits) => if fits = true then (⟨k, l.getD 0 0, l.getD 1 0, l.getD 2 0⟩, chk ⟨k, l.getD 0 0, l.getD 1 0, l.getD 2 0⟩) else (zI, 2))) := by
    intro u
    match l, h3 with
    | [], _ =>
      show K1 true 0 0 0 = _
      rw [k1]; rfl
    | [a], _ =>
      have e0 : S_line_12 N k (sL [a]) ((sL [a]).length : Int) 0 0 0 0 x y z (u + 4) true 0 0 0 0 K0 K1 = stV N x a true (K0 30 true 0 0 0 0 0 0 0) fun b n => K1 b n 0 0 := id rfl
      rw [e0, stV_eq N hN _ _ _ _ _ (hb a (by simp)), k0]
      simp only [valsW, k1]
      rcases valW x a with ⟨n, c, d⟩
      cases c <;> cases d <;> rfl
    | [a, b], _ =>
      have e0 : S_line_12 N k (sL [a, b]) ((sL [a, b]).length : Int) 0 0 0 0 x y z (u + 4) true 0 0 0 0 K0 K1 = stV N x a true (K0 30 true 0 0 0 0 0 0 0) fun f n => stV N y b f (K0 30 f 0 0 0 0 n 0 0) fun f m => K1 f n m 0 := id rfl
      rw [e0, stV_eq N hN _ _ _ _ _ (hb a (by simp))]
      simp only [stV_eq N hN _ _ _ _ _ (hb b (by simp)), k0, valsW, k1]
      rcases valW x a with ⟨n, c, d⟩
      rcases valW y b with ⟨n', c', d'⟩
      cases c <;> cases d <;> cases c' <;> cases d' <;> rfl
    | [a, b, e], _ =>
      have e0 : S_line_12 N k (sL [a, b, e]) ((sL [a, b, e]).length : Int) 0 0 0 0 x y z (u + 4) true 0 0 0 0 K0 K1 = stV N x a true (K0 30 true 0 0 0 0 0 0 0) fun f n => stV N y b f (K0 30 f 0 0 0 0 n 0 0) fun f m => stV N z e f (K0 30 f 0 0 0 0 n m 0) fun f o => K1 f n m o := id rfl
      rw [e0, stV_eq N hN _ _ _ _ _ (hb a (by simp))]
      simp only [stV_eq N hN _ _ _ _ _ (hb b (by simp)), stV_eq N hN _ _ _ _ _ (hb e (by simp)), k0, valsW, k1]
      rcases valW x a with ⟨n, c, d⟩
      rcases valW y b with ⟨n', c', d'⟩
      rcases valW z e with ⟨n2, c2, d2⟩
      cases c <;> cases d <;> cases c' <;> cases d' <;> cases c2 <;> cases d2 <;> rfl
  have := key t
  rw [← ht] at this
  exact this
theorem line_eq (hN : 60 < N) (s : List UInt8) (h : s.length ≤ 900000) : s_line N s = some (linT (lineP s)) := by
  unfold s_line lineP
  rw [splitS_eq N 32 s (by omega), bnd1_mk, names_eq, bnd1_mk]
  obtain ⟨q1, q2⟩ := split1_len 32 s
  cases hs : split1 32 s with
  | nil => exact absurd hs (split1_ne 32 s)
  | cons w r =>
    rw [hs] at q1 q2
    simp only [List.length_cons] at q1
    have hb : ∀ v ∈ r, v.length ≤ 1000000 := fun v hv => by have := q2 v (by simp [hv]); omega
    simp only
    have e1 : (0 : Int) < ((sL (w :: r)).length : Int) := by rw [sL_len]; simp <;> omega
    have e2 : (1 : Int) ≤ ((sL (w :: r)).length : Int) := by rw [sL_len]; simp <;> omega
    rw [br_dec, if_pos e1, sL_cons, at_zero, unStr_mk, ← sL_cons]
    rw [show (namesL.map V.str) = sL namesL from rfl, index_eq N namesL w (by show 54 < N; omega) (by decide), bnd1_mk, br_dec]
    unfold idxI
    cases hi : idxN w namesL with
    | none => rfl
    | some k =>
      have k1 : k < 54 := (idx_back w namesL k hi).1
      simp only
      rw [if_neg (by omega), formOf_eq N (by omega) (by omega), bnd3_mk, br_dec, if_pos e2]
      have hw := words_eq N (by omega) (fm_of (op := (k : Int)) (by omega) (by omega)) r (by omega) hb
      have hd : List.drop 1 (sL (w :: r)) = sL r := rfl
      rw [hd]
      unfold lineK
      cases hk : wordsW (fA (k : Int)) (fB (k : Int)) (fC (k : Int)) r with
      | none =>
        rw [hk] at hw
        obtain ⟨vs, hw⟩ := hw
        rw [hw]; rfl
      | some l =>
        rw [hk] at hw
        have hw : s_words N (fA (k : Int)) (fB (k : Int)) (fC (k : Int)) (sL r) = some (sL l, true) := hw
        obtain ⟨l3, lb⟩ := words_len hk hb
        rw [hw, bnd2_mk, br_not, br_t]
        exact lineV_eq N (by omega) (k : Int) l l3 lb
theorem cParse_loop (hN : 60 < N) : ∀ (t : Nat) (acc : List In) (s : List UInt8), s.length < t → s.length ≤ 900000 → acc.length ≤ 256 →
    S_cParse_2 N t s (iE acc) (fun l0 n1 l2 => some (l0, n1)) (fun l3 => some (l3, (0 : Int))) = some (decV (parseL t acc s))
  | 0, acc, s, ht, _, _ => by omega
  | t + 1, acc, [], ht, _, ha => by
    unfold S_cParse_2 F_cParse_2 parseL
    rw [br_not, br_dec, if_pos rfl]; rfl
  | t + 1, acc, b :: r, ht, hl, ha => by
    unfold S_cParse_2 F_cParse_2 parseL
    rw [br_not, br_dec, if_neg (by simp), br_dec, iE_len]
    by_cases c : acc.length = 256
    · rw [if_pos (by omega), if_pos c]; rfl
    rw [if_neg (by omega), if_neg c, cut_eq N 10 (b :: r) (by omega)]
    have hc1 := cut1_len 10 (b :: r)
    rcases hc : cut1 10 (b :: r) with ⟨x, y, e⟩
    rw [hc] at hc1
    simp only at hc1
    cases e with
    | false => rfl
    | true =>
      have hy : y.length < t := by
        have := congrArg List.length (cut1_back 10 _ x y hc)
        simp at this ht; omega
      simp only [bnd3_mk, br_not, br_t, if_true]
      rw [line_eq N hN x (by omega)]
      rcases hp : lineP x with ⟨i, e⟩
      unfold linT
      simp only [bnd5_mk, br_not, br_dec]
      by_cases c2 : e = 0
      · rw [if_pos c2, if_pos c2, if_pos (by simp <;> omega), iV_def, iE_snoc]
        exact cParse_loop hN t (acc ++ [i]) y hy (by omega) (by simp <;> omega)
      · rw [if_neg c2, if_neg c2]; rfl
theorem cParse_eq (hN : 60 < N) (s : List UInt8) (h : s.length < N) (h2 : s.length ≤ 900000) : s_cParse N s = some (decV (parseL N [] s)) := cParse_loop N hN N [] s h h2 (by simp)
end
end Go.Proofs.YtjpmogajlnkihaaDoor.En

/- The chapter's first example, as an item of the engine (written by hand after the printer's form: the printer takes too long at it). -/
namespace Go.Proofs.YtjpmogajlnkihaaDoor.En
open Go Go.Proofs
set_option maxRecDepth 100000
set_option linter.unusedVariables false
noncomputable def e_awake {R : Type} (s : Option (Bool)) (ds : List D) (K : List D → Option R) : Option R :=
  match ds with
  | [] => bnd1 (s) fun r0 => K [.v (.bool r0) .no]
  | _ => none
noncomputable def r_awake (rs : List D) (_ : Mem) : Option (Bool) :=
  match rs with
  | [.v (.bool r0) _] => some (r0)
  | _ => none
def awL : List V := [V.agg [.int .i64 3, .int .i64 0, .int .i64 0, .int .i64 0], V.agg [.int .i64 1, .int .i64 1, .int .i64 0, .int .i64 0], V.agg [.int .i64 9, .int .i64 0, .int .i64 0, .int .i64 0], V.agg [.int .i64 49, .int .i64 0, .int .i64 0, .int .i64 0]]
def awT : List UInt8 := [108, 111, 97, 100, 32, 48, 10, 112, 117, 115, 104, 32, 49, 10, 97, 100, 100, 10, 114, 101, 116, 117, 114, 110, 10]
noncomputable def s_awake (N : Nat)  : Option (Bool) := bnd2 (s_cEncode N awL) fun l0 n1 => bnd2 (s_cParse N awT) fun l2 n3 => br (decide (n1 = 0)) (bnd1 (s_Same1 N l0 ([3, 0, 1, 0, 0, 0, 1, 9, 49] : List UInt8)) fun b4 => br b4 (br (decide (n3 = 0)) (bnd1 (s_rSame N l2 awL) fun b5 => br b5 (bnd1 (s_cText N awL) fun l6 => some (decide (l6 = awT))) (some false)) (some false)) (some false)) (some false)
noncomputable def cx_awake (N : Nat) : Cx := { T := T, isPure := tabP [⟨15, e_cEncode (s_cEncode N)⟩, ⟨20, e_cParse (s_cParse N)⟩, ⟨17, e_Same1 (s_Same1 N)⟩, ⟨22, e_rSame (s_rSame N)⟩, ⟨18, e_cText (s_cText N)⟩], pureK := fun g ds K => tabK [⟨15, e_cEncode (s_cEncode N)⟩, ⟨20, e_cParse (s_cParse N)⟩, ⟨17, e_Same1 (s_Same1 N)⟩, ⟨22, e_rSame (s_rSame N)⟩, ⟨18, e_cText (s_cText N)⟩] g ds K, memK := fun g dst ds m K => tabMK [] g dst ds m K, meth := tabM [], keep := fun _ => [], keepX := fun _ => [], loopT := fun _ _ _ _ => none, jumps := 9 }
theorem s_awake_ok (N : Nat)  : bodyK (cx_awake N) Tryd.f14 [] [] r_awake = s_awake N  := by
  kernel_rfl
theorem go_awake : Goes Tryd.prog 14 := goes_of Tryd.func14 (by kernel_rfl) (c := bodyOf Tryd.f14) (by kernel_rfl)
theorem eo_awake (s : Option (Bool)) (hs : ∀  (r0 : Bool), s  = some r0 → PureRet Tryd.prog T 14 [] [.v (.bool r0) .no]) : EntOK Tryd.prog T ⟨14, e_awake s⟩ := by
  refine ⟨go_awake, fun R ds K r h => ?_, fun R ds K => ?_⟩
  · simp only [e_awake] at h
    split at h
    · obtain ⟨r0, h1, h2⟩ := bnd1_some h
      exact ⟨_, h2, hs _ h1⟩
    · cases h
  · simp only [e_awake]
    split
    · rw [bnd1_b]; rfl
    · rfl
theorem co_awake (N : Nat) : CxOK Tryd.prog (cx_awake N) :=
  cxOK_of2 (es := [⟨15, e_cEncode (s_cEncode N)⟩, ⟨20, e_cParse (s_cParse N)⟩, ⟨17, e_Same1 (s_Same1 N)⟩, ⟨22, e_rSame (s_rSame N)⟩, ⟨18, e_cText (s_cText N)⟩]) (me := []) (ms := []) T_ok ⟨eo_cEncode _ (p_cEncode N), eo_cParse _ (p_cParse N), eo_Same1 _ (p_Same1 N), eo_rSame _ (p_rSame N), eo_cText _ (p_cText N), trivial⟩ trivial trivial rfl (fun _ _ _ _ => rfl) (fun _ _ _ _ _ _ => rfl) rfl
theorem lo_awake (N : Nat) : LoopsOK (cx_awake N) Tryd.f14.ntmps (bodyOf Tryd.f14) :=
  loopsOK_of (k := 0) (by kernel_rfl) trivial
theorem p_awake (N : Nat)  (r0 : Bool) (h : s_awake N  = some r0) : PureRet Tryd.prog T 14 [] [.v (.bool r0) .no] :=
  pure_of (cx := cx_awake N) (by kernel_rfl) (co_awake N) Tryd.func14 (by kernel_rfl) (by kernel_rfl) (lo_awake N) rfl rfl rfl (rf := r_awake) ((s_awake_ok N ).trans h) (fun rs' m h => by
    unfold r_awake at h
    split at h
    · cases h; exact ⟨rfl, rfl⟩
    · cases h)
end Go.Proofs.YtjpmogajlnkihaaDoor.En

/- Functions of the program in plain Lean, joined to the program by evaluation; printed by a program. -/
namespace Go.Proofs.YtjpmogajlnkihaaDoor.En
open Go Go.Proofs
set_option maxRecDepth 100000
set_option linter.unusedVariables false
end Go.Proofs.YtjpmogajlnkihaaDoor.En

/- The printed functions, together. -/

/- Functions of the program in plain Lean, joined to the program by evaluation; printed by a program. -/
namespace Go.Proofs.YtjpmogajlnkihaaDoor.En
open Go Go.Proofs
set_option maxRecDepth 100000
set_option linter.unusedVariables false
end Go.Proofs.YtjpmogajlnkihaaDoor.En

/- The printed functions, together. -/

/- The laws of chapter 27: Checks, Encodes, Decodes, Texts, Natives, RoundTrip; no program in sight. -/
namespace Go.Proofs.YtjpmogajlnkihaaDoor.En
open Go
set_option linter.unusedVariables false
theorem midG {α : Type} (pre : List α) (x : α) (suf : List α) : pre ++ x :: suf = (pre ++ [x]) ++ suf := by simp
section
variable (N : Nat) {R : Type}
theorem cmp_loop : ∀ (a b pre : List UInt8) (t : Nat), a.length < t → pre.length + a.length ≤ 9223372036854775807 → pre.length + b.length ≤ 9223372036854775807 →
    ∃ z, S_Compare_2 N (pre ++ a) (pre ++ b) t (pre.length : Int) (fun n0 => some n0) (br (decide (((pre ++ a).length : Int) < ((pre ++ b).length : Int))) (some (-1)) (br (decide (((pre ++ b).length : Int) < ((pre ++ a).length : Int))) (some 1) (some 0))) = some z ∧ (z = 0 ↔ a = b)
  | a, b, pre, 0, ht, _, _ => by omega
  | [], [], pre, t + 1, ht, _, _ => by
    unfold S_Compare_2 F_Compare_2
    exact ⟨0, by simp [br], by simp⟩
  | [], y :: b, pre, t + 1, ht, _, _ => by
    unfold S_Compare_2 F_Compare_2
    refine ⟨-1, ?_, by simp⟩
    simp only [br_dec, List.append_nil]
    rw [if_neg (by omega), if_pos (by simp <;> omega)]
  | x :: a, [], pre, t + 1, ht, _, _ => by
    unfold S_Compare_2 F_Compare_2
    refine ⟨1, ?_, by simp⟩
    simp only [br_dec, List.append_nil]
    rw [if_pos (by simp <;> omega), if_neg (by omega), if_neg (by simp <;> omega), if_pos (by simp <;> omega)]
  | x :: a, y :: b, pre, t + 1, ht, h1, h2 => by
    simp only [List.length_cons] at ht h1 h2
    obtain ⟨z, ih1, ih2⟩ := cmp_loop a b (pre ++ [x]) t (by omega) (by simp <;> omega) (by simp <;> omega)
    have e1 : (pre.length : Int) < ((pre ++ x :: a).length : Int) := by simp; omega
    have e2 : (pre.length : Int) < ((pre ++ y :: b).length : Int) := by simp; omega
    have e3 : (0 : Int) ≤ pre.length := by omega
    have e4 : IntKind.i64.wrap ((pre.length : Int) + 1) = ((pre ++ [x]).length : Int) := by rw [w64 (by omega) (by omega)]; simp
    unfold S_Compare_2 F_Compare_2
    simp only [br_t, br_f, br_dec, br_not, br_and, br_or, bnd1_mk, bnd2_mk, bnd3_mk, bnd4_mk, bnd5_mk, bnd10_mk, at_zero, at_succ, at_mid, unInt_mk, unBool_mk, unStr_mk, unBytes_mk, unSl_mk, unAgg_mk, unCons_mk, unNil_mk, e1, e2, e3, if_true, Int.toNat_natCast]
    by_cases c1 : (x.toNat : Int) < (y.toNat : Int)
    · rw [if_pos c1]
      exact ⟨-1, rfl, ⟨fun h => (by cases h), fun h => by injection h with h _; subst h; omega⟩⟩
    rw [if_neg c1]
    by_cases c2 : (y.toNat : Int) < (x.toNat : Int)
    · rw [if_pos c2]
      exact ⟨1, rfl, ⟨fun h => (by cases h), fun h => by injection h with h _; subst h; omega⟩⟩
    rw [if_neg c2]
    obtain rfl : x = y := UInt8.toNat_inj.1 (by omega)
    refine ⟨z, ?_, by rw [ih2]; simp⟩
    rw [e4]
    rw [← midG, ← midG] at ih1
    simpa only [br_dec] using ih1
theorem Same1_eq (a b : List UInt8) (h : a.length < N) (h1 : a.length ≤ 9223372036854775807) (h2 : b.length ≤ 9223372036854775807) : s_Same1 N a b = some (decide (a = b)) := by
  obtain ⟨z, h3, h4⟩ := cmp_loop N a b [] N h (by simpa using h1) (by simpa using h2)
  have h3' : s_Compare N a b = some z := h3
  unfold s_Same1
  rw [h3', bnd1_mk]
  exact congrArg some (decide_eq_decide.2 h4)
/-- A list of instructions is the same as itself. -/
theorem rSame_loop (K0 : Bool → Option R) (K1 : Option R) : ∀ (l : List In) (pre : List V) (t : Nat), l.length < t → pre.length + l.length ≤ 1000000 → S_rSame_4 N (pre ++ iE l) (pre ++ iE l) t (pre.length : Int) K0 K1 = K1
  | l, pre, 0, ht, _ => by omega
  | [], pre, t + 1, ht, _ => by
    unfold S_rSame_4 F_rSame_4
    simp only [iE, br_t, br_f, br_dec, br_not, br_and, br_or, bnd1_mk, bnd2_mk, bnd3_mk, bnd4_mk, bnd5_mk, bnd10_mk, at_zero, at_succ, at_mid, unInt_mk, unBool_mk, unStr_mk, unBytes_mk, unSl_mk, unAgg_mk, unCons_mk, unNil_mk, endV, if_false]
  | i :: l, pre, t + 1, ht, hl => by
    simp only [List.length_cons] at ht hl
    obtain ⟨h1, h2, h3⟩ := stepV pre (iV i) (iE l) (by rw [iE_len]; omega)
    have ih := rSame_loop K0 K1 l (pre ++ [iV i]) t (by omega) (by simp <;> omega)
    rw [← midV, ← h3] at ih
    unfold S_rSame_4 F_rSame_4
    simp only [iE, br_t, br_f, br_dec, br_not, br_and, br_or, bnd1_mk, bnd2_mk, bnd3_mk, bnd4_mk, bnd5_mk, bnd10_mk, at_zero, at_succ, at_mid, unInt_mk, unBool_mk, unStr_mk, unBytes_mk, unSl_mk, unAgg_mk, unCons_mk, unNil_mk, h1, h2, if_true, Int.toNat_natCast]
    show V.unAgg (iV i) _ = _
    unfold iV
    simp only [br_t, br_f, br_dec, br_not, br_and, br_or, bnd1_mk, bnd2_mk, bnd3_mk, bnd4_mk, bnd5_mk, bnd10_mk, at_zero, at_succ, at_mid, unInt_mk, unBool_mk, unStr_mk, unBytes_mk, unSl_mk, unAgg_mk, unCons_mk, unNil_mk, if_true]
    unfold iV at ih
    exact ih
theorem rSame_eq (l : List In) (h : l.length < N) (h2 : l.length ≤ 900000) : s_rSame N (iE l) (iE l) = some true := by
  unfold s_rSame
  rw [br_not, br_dec, if_pos rfl]
  have := rSame_loop N (fun b0 => some b0) (some true) l [] N h (by simpa using by omega)
  rw [List.nil_append] at this
  exact this
theorem encL_ok {l : List In} {x : List UInt8} (h : encL l = (x, 0)) : l.length ≤ 256 ∧ firstE l = 0 ∧ x = encAll l := by
  unfold encL at h
  split at h
  · injection h with _ h; cases h
  · split at h
    · injection h with h _; exact ⟨by omega, by assumption, h.symm⟩
    · rename_i c; injection h with _ h; exact absurd h c
theorem encL_of {l : List In} (h1 : l.length ≤ 256) (h2 : firstE l = 0) : encL l = (encAll l, 0) := by
  unfold encL
  rw [if_neg (by omega), if_pos h2]
theorem encL_err {l : List In} {x : List UInt8} {e : Int} (h : encL l = (x, e)) (he : e ≠ 0) : x = [] := by
  unfold encL at h
  split at h
  · injection h with h _; exact h.symm
  · split at h
    · injection h with _ h; exact absurd h.symm he
    · injection h with h _; exact h.symm
theorem encL_len {l : List In} {x : List UInt8} {e : Int} (h : encL l = (x, e)) : x.length ≤ 3328 := by
  by_cases c : e = 0
  · subst c
    obtain ⟨h1, h2, rfl⟩ := encL_ok h
    have := encAll_le l
    omega
  · rw [encL_err h c]; simp
/-! The chapter's first example -/
def awI : List In := [⟨3, 0, 0, 0⟩, ⟨1, 1, 0, 0⟩, ⟨9, 0, 0, 0⟩, ⟨49, 0, 0, 0⟩]
theorem awL_iE : awL = iE awI := id rfl
theorem awI_ok : firstE awI = 0 := by decide +kernel
theorem awI_enc : encAll awI = [3, 0, 1, 0, 0, 0, 1, 9, 49] := by decide +kernel
theorem awI_txt : textAll awI = awT := by decide +kernel
theorem awake_eq (hN : 200000 < N) : s_awake N = some true := by
  have he : encL awI = ([3, 0, 1, 0, 0, 0, 1, 9, 49], 0) := by rw [encL_of (by decide) awI_ok, awI_enc]
  have ht : textL awI = awT := by unfold textL; rw [he]; exact awI_txt
  have hp : parseL N [] awT = (awI, 0) := by rw [← awI_txt]; exact parse_text awI [] N (by show 4 < N; omega) (by decide) awI_ok
  unfold s_awake
  rw [awL_iE, cEncode_eq N (by omega) awI (by show 4 < N; omega) (by decide), he, bnd2_mk, cParse_eq N (by omega) awT (by show 25 < N; omega) (by decide), hp]
  unfold decV
  rw [bnd2_mk, br_dec, if_pos rfl, Same1_eq N _ _ (by show 9 < N; omega) (by decide) (by decide), bnd1_mk, decide_eq_true rfl, br_t, br_dec, if_pos rfl, rSame_eq N awI (by show 4 < N; omega) (by decide), bnd1_mk, br_t,
    cText_eq N (by omega) awI (by show 4 < N; omega) (by decide), ht, bnd1_mk, decide_eq_true rfl]
/-! The laws -/
end
end Go.Proofs.YtjpmogajlnkihaaDoor.En

/- The engine, part 2r: what an argument that came in reads as. No program in sight. -/
namespace Go.Proofs.YtjpmogajlnkihaaDoor.En
open Go Go.RowKit
set_option linter.unusedVariables false
/-- A world of arguments: nothing is written. -/
def immG (T : TypeId → Option Ty) : G := { Γ := fun _ => .imm, J := fun _ _ => 0, sz := sizes T }
theorem stable_imm (T : TypeId → Option Ty) (b o : Nat) : Stable (immG T) b o := trivial
/-- An element, given its cells. -/
def mkEl (row : Bool) (cs : List V) : V := match row with | true => .agg cs | false => cs.headD .nilI
/-- Cells that have the shape of a type. -/
def FitsFs (F : TypeId → List V → Prop) : List Field → List V → Prop
  | [], xs => xs = []
  | f :: fs, xs => ∃ a r, xs = a ++ r ∧ F f.type a ∧ FitsFs F fs r
def Fits (T : TypeId → Option Ty) : Nat → TypeId → List V → Prop
  | 0, _, _ => False
  | n + 1, t, xs => match T t with
    | none => False
    | some ty => match ty.desc with
      | .bool => ∃ b, xs = [.bool b]
      | .int k => ∃ i, xs = [.int k i] ∧ k.min ≤ i ∧ i ≤ k.max
      | .string => ∃ s, xs = [.str s] ∧ s.length ≤ maxLen
      | .slice e => match ty.cks with
        | [.bytes _] => ∃ s, xs = [.bytes s] ∧ s.length ≤ maxLen
        | [.slc e'] => e' = e ∧ ∃ ys, xs = [.sl e ys] ∧ ys.length ≤ maxLen ∧ ∀ y ∈ ys, ∃ te cs, T e = some te ∧ y = mkEl te.row cs ∧ Fits T n e cs
        | _ => False
      | .struct fs => FitsFs (Fits T n) fs.toList xs
      | _ => False
/-- A type that is read. -/
def readable (T : TypeId → Option Ty) (t : TypeId) : Bool :=
  match T t with
  | none => false
  | some ty => match ty.desc with
    | .bool => true
    | .int _ => true
    | .string => true
    | .slice e => (match T e with
      | none => false
      | some te => (match ty.cks with
        | [.bytes _] => (match te.desc with | .int .u8 => Nat.beq te.size 1 | _ => false)
        | [.slc e'] => Nat.beq e' e && Nat.ble 1 te.size && (match te.row with | true => true | false => Nat.beq te.size 1)
        | _ => false))
    | .struct fs => contigT T ty.size 0 fs.toList && fs.toList.all (fun f => match T f.type with | some _ => true | none => false)
    | _ => false
/-- The types that a type leads to. -/
def closedT (T : TypeId → Option Ty) (l : List TypeId) : Bool :=
  l.all fun t => readable T t && (match T t with
    | none => false
    | some ty => match ty.desc with
      | .slice e => l.any (Nat.beq e)
      | .struct fs => fs.toList.all fun f => l.any (Nat.beq f.type)
      | _ => true)
section
variable {H : Type} {enc : TypeId × Value → H} {P : Program} {T : TypeId → Option Ty} {w : World} {base : Nat} {spare : Nat → Bool} {held : Bool}
structure RepC (T : TypeId → Option Ty) (w : World) (xs : List V) (cs : List Value) : Prop where
  len : xs.length = cs.length
  one : ∀ x ∈ xs, x.one = true
  rep : ∀ (k : Nat) y, xs[k]? = some y → RepV (immG T) w y (cs.getD k undef)
theorem RepC.single {x : V} {v : Value} (h1 : x.one = true) (h : RepV (immG T) w x v) : RepC T w [x] [v] :=
  ⟨rfl, fun y hy => by simp at hy; subst hy; exact h1, fun k y hk => by
    rcases k with _ | k
    · simp at hk; subst hk; simpa using h
    · simp at hk⟩
theorem RepC.append {xs ys : List V} {cs ds : List Value} (h : RepC T w xs cs) (k : RepC T w ys ds) : RepC T w (xs ++ ys) (cs ++ ds) := by
  refine ⟨by simp [h.len, k.len], fun x hx => ?_, fun i y hy => ?_⟩
  · rcases List.mem_append.1 hx with hx | hx
    · exact h.one x hx
    · exact k.one x hx
  · rcases Nat.lt_or_ge i xs.length with hl | hl
    · rw [List.getElem?_append_left hl] at hy
      have := h.rep i y hy
      rw [List.getD_eq_getElem?_getD, List.getElem?_append_left (by rw [← h.len]; exact hl), ← List.getD_eq_getElem?_getD]
      exact this
    · rw [List.getElem?_append_right hl] at hy
      have := k.rep _ y hy
      rw [List.getD_eq_getElem?_getD, List.getElem?_append_right (by rw [← h.len]; exact hl), ← h.len, ← List.getD_eq_getElem?_getD]
      exact this
theorem cellsOf_eq (hT : TypesOK P T) {t : TypeId} {ty : Ty} (h : T t = some ty) : P.cellsOf t = ty.size := by
  obtain ⟨i, h1, _, h2, _⟩ := (hT t ty h).info
  simp [Program.cellsOf, h1, h2]
theorem sizes_eq {t : TypeId} {ty : Ty} (h : T t = some ty) : sizes T t = ty.size := by unfold sizes; rw [h]
theorem add_none (b off i : Nat) : (⟨b, off, none⟩ : Addr).add i = ⟨b, off + i, none⟩ := by
  unfold Addr.add
  by_cases h0 : i = 0
  · subst h0; rfl
  · rw [if_neg h0]
theorem spot_row {a : Addr} {n k : Nat} {cs : List Value} (h : w.cells? base (a.add (0 * n)) k = some cs) (hk : 0 < k) : a.spot = none := by
  obtain ⟨_, hl, h5⟩ := World.cells?_some h
  have h6 := h5 0 hk
  rw [List.getElem?_eq_getElem (by omega)] at h6
  have := World.cell?_spot h6
  simpa [Addr.add] using this
theorem mkEl_cells {row : Bool} {cs : List V} (ho : ∀ x ∈ cs, x.one = true) (h : row = false → cs.length = 1) : (mkEl row cs).cells = cs := by
  cases row with
  | true => rfl
  | false =>
    have := h rfl
    match cs, this with
    | [x], _ =>
      have := ho x (by simp)
      show V.cells x = [x]
      cases x <;> first | rfl | cases this
theorem okEl_mk {row : Bool} {cs : List V} {n : Nat} (hl : cs.length = n) (ho : ∀ x ∈ cs, x.one = true) (h : row = false → cs.length = 1) : okEl n (mkEl row cs) = true := by
  unfold okEl
  rw [mkEl_cells ho h]
  simp only [Bool.and_eq_true, beq_iff_eq, List.all_eq_true]
  exact ⟨hl, ho⟩
theorem flatT_get {α : Type} {n : Nat} : ∀ (l : List (List α)) (i j : Nat) (c : List α), (∀ c ∈ l, c.length = n) → l[i]? = some c → j < n → l.flatten[i * n + j]? = c[j]?
  | [], i, j, c, _, h, _ => by simp at h
  | d :: l, 0, j, c, hl, h, hj => by
    simp at h; subst h
    have := hl d (by simp)
    rw [List.flatten_cons, Nat.zero_mul, Nat.zero_add, List.getElem?_append_left (by omega)]
  | d :: l, i + 1, j, c, hl, h, hj => by
    have hd := hl d (by simp)
    rw [List.flatten_cons, Nat.succ_mul, List.getElem?_append_right (by omega)]
    rw [show i * n + n + j - d.length = i * n + j by omega]
    exact flatT_get l i j c (fun c hc => hl c (by simp [hc])) (by simpa using h) hj
theorem flatT_len {α : Type} {n : Nat} : ∀ (l : List (List α)), (∀ c ∈ l, c.length = n) → l.flatten.length = l.length * n
  | [], _ => by simp
  | d :: l, h => by
    rw [List.flatten_cons, List.length_append, h d (by simp), flatT_len l fun c hc => h c (by simp [hc]), List.length_cons, Nat.succ_mul]; omega
theorem choose_list {α : Type} {p : Nat → α → Prop} : ∀ (n : Nat), (∀ i, i < n → ∃ a, p i a) → ∃ l : List α, l.length = n ∧ ∀ (i : Nat) a, l[i]? = some a → p i a
  | 0, _ => ⟨[], rfl, fun i a h => by simp at h⟩
  | n + 1, h => by
    obtain ⟨l, h1, h2⟩ := choose_list n fun i hi => h i (by omega)
    obtain ⟨a, ha⟩ := h n (by omega)
    refine ⟨l ++ [a], by simp [h1], fun i b hb => ?_⟩
    rcases Nat.lt_or_ge i l.length with hl | hl
    · rw [List.getElem?_append_left hl] at hb; exact h2 i b hb
    · rw [List.getElem?_append_right hl] at hb
      have : i = n := by
        have := (List.getElem?_eq_some_iff.1 hb).1
        simp at this; omega
      subst this
      rw [h1] at hb
      simp at hb
      subst hb; exact ha
theorem trod_rep (hT : TypesOK P T) {l : List TypeId} (hl : closedT T l = true) : ∀ (fuel : Nat) (t : TypeId) (cs : List Value) (x : DataW H × List MemPlace), t ∈ l → DataW.trod enc P w base spare held fuel t cs = some x →
    ∃ xs, RepC T w xs cs ∧ Fits T fuel t xs ∧ ∀ ty, T t = some ty → cs.length = ty.size
  | 0, t, cs, x, _, h => by simp [DataW.trod] at h
  | n + 1, t, cs, x, hm, h => by
    have hcl := List.all_eq_true.1 hl t hm
    simp only [Bool.and_eq_true] at hcl
    obtain ⟨hre, hlead⟩ := hcl
    unfold Fits
    unfold readable at hre
    cases hTt : T t with
    | none => rw [hTt] at hre; simp at hre
    | some ty =>
    rw [hTt] at hre hlead
    simp only at hre hlead ⊢
    have hd := (hT t ty hTt).desc
    have h1c : ty.row = false → ty.size = 1 := (hT t ty hTt).one
    cases hdesc : ty.desc <;> rw [hdesc] at hre hlead hd <;> simp only [Bool.false_eq_true] at hre hlead ⊢
    · obtain ⟨b, rfl, _⟩ := DataW.trod_bool hd h
      exact ⟨[.bool b], .single rfl (.bool b), ⟨b, rfl⟩, fun ty' e => by cases e; rw [h1c (by simp [Ty.row, hdesc])]; rfl⟩
    · rename_i k
      obtain ⟨i, rfl, _, hwf⟩ := DataW.trod_int hd h
      have hb : k.min ≤ i ∧ i ≤ k.max := by simpa [Lit.wf] using hwf
      exact ⟨[.int k i], .single rfl (.int k i hb), ⟨i, rfl, hb⟩, fun ty' e => by cases e; rw [h1c (by simp [Ty.row, hdesc])]; rfl⟩
    · obtain ⟨s, rfl, _, hs⟩ := DataW.trod_string hd h
      have e : s = ⟨s.data.toList.toArray⟩ := by cases s; simp
      have hsl : s.data.toList.length = s.size := by cases s; rfl
      refine ⟨[.str s.data.toList], .single rfl ?_, ⟨_, rfl, by rw [hsl]; exact hs⟩, fun ty' e => by cases e; rw [h1c (by simp [Ty.row, hdesc])]; rfl⟩
      have := RepV.str (g := immG T) (w := w) s.data.toList (by rw [hsl]; unfold maxLen at hs; omega)
      rwa [← e] at this
    · rename_i e
      cases hTe : T e with
      | none => rw [hTe] at hre; simp at hre
      | some te =>
      rw [hTe] at hre
      simp only at hre
      have hsz := cellsOf_eq hT hTe
      have hmem : e ∈ l := by
        obtain ⟨z, hz, hb⟩ := List.any_eq_true.1 hlead
        have := Nat.eq_of_beq_eq_true hb
        subst this; exact hz
      have hsize : ∀ ty', some ty = some ty' → ∀ v : Value, [v].length = ty'.size := fun ty' e v => by cases e; rw [h1c (by simp [Ty.row, hdesc])]; rfl
      split at hre
      · rename_i e0 hcks
        split at hre
        · rename_i hte
          have hte1 := Nat.eq_of_beq_eq_true hre
          rw [hte1] at hsz
          have hde := (hT e te hTe).desc
          rw [hte] at hde
          rcases DataW.trod_slice hd h with ⟨rfl, _⟩ | ⟨a, len, cap, elems, rest, m, e1, rfl, _, hb, hlc, hcm, hel, hget, _, _⟩
          · exact ⟨[.bytes []], .single rfl (.bytes [] none 0 0 rfl (Nat.le_refl _) (by simp) (fun k x hx => by simp at hx)), ⟨[], rfl, by simp⟩, fun ty' e => hsize ty' e _⟩
          · have key : ∀ i, i < len → ∃ b : UInt8, ∃ bb off, a = ⟨bb, off, none⟩ ∧ w.cell? ⟨bb, off + i, none⟩ = some (.int .u8 (b.toNat : Int)) := by
              intro i hi
              have h2 := hget i hi
              rw [List.getElem?_eq_getElem (by rw [hel]; exact hi), Option.bind_eq_some_iff] at h2
              obtain ⟨cs, h3, h4⟩ := h2
              obtain ⟨z, rfl, _, hwf⟩ := DataW.trod_int hde h4
              rw [hsz, Nat.mul_one] at h3
              obtain ⟨_, _, h5⟩ := World.cells?_some h3
              have h6 := h5 0 (by omega)
              simp at h6
              have hzr : 0 ≤ z ∧ z ≤ 255 := by simpa [Lit.wf, IntKind.min, IntKind.max, IntKind.signed, IntKind.bits] using hwf
              have hspn : a.spot = none := by
                have h2 := hget 0 (by omega)
                rw [List.getElem?_eq_getElem (by omega), Option.bind_eq_some_iff] at h2
                obtain ⟨cs, h3, _⟩ := h2
                exact spot_row h3 (by omega)
              obtain ⟨bb, off, sp⟩ := a
              simp only at hspn
              subst hspn
              refine ⟨UInt8.ofNat z.toNat, bb, off, rfl, ?_⟩
              rw [add_none] at h6
              have hz2 : (off + i + 0) = off + i := rfl
              rw [show ((UInt8.ofNat z.toNat).toNat : Int) = z by rw [UInt8.toNat_ofNat', Nat.mod_eq_of_lt (by omega)]; omega]
              simpa [Addr.add] using h6
            obtain ⟨bs, b1, b2⟩ := choose_list len key
            refine ⟨[.bytes bs], .single rfl (.bytes bs (some a) len cap b1 hlc hcm fun k x hx => ?_), ⟨bs, rfl, by omega⟩, fun ty' e => hsize ty' e _⟩
            obtain ⟨bb, off, c1, c2⟩ := b2 k x hx
            exact ⟨bb, off, by rw [c1], stable_imm T _ _, c2⟩
        · cases hre
      · rename_i e0 hcks
        simp only [Bool.and_eq_true] at hre
        obtain ⟨⟨he0, hte1⟩, hrow⟩ := hre
        have he0 := Nat.eq_of_beq_eq_true he0
        have hte1 := Nat.le_of_ble_eq_true hte1
        have hrow1 : te.row = false → te.size = 1 := (hT e te hTe).one
        have hszs : (immG T).sz e = te.size := sizes_eq hTe
        rcases DataW.trod_slice hd h with ⟨rfl, _⟩ | ⟨a, len, cap, elems, rest, m, e1, rfl, _, hb, hlc, hcm, hel, hget, _, _⟩
        · exact ⟨[.sl e []], .single rfl (.sl e [] none 0 0 (fun _ => undef) rfl (Nat.le_refl _) (by simp) (by simp) (fun k y hy => by simp at hy) (fun k y hy => by simp at hy)), ⟨he0, [], rfl, by simp, by simp⟩, fun ty' e => hsize ty' e _⟩
        · obtain rfl : n = m := by omega
          have key : ∀ i, i < len → ∃ p : List V × List Value, RepC T w p.1 p.2 ∧ Fits T n e p.1 ∧ p.2.length = te.size ∧ ∃ bb off, a = ⟨bb, off, none⟩ ∧ ∀ j, j < te.size → w.cell? ⟨bb, off + (i * te.size + j), none⟩ = some (p.2.getD j undef) := by
            intro i hi
            have h2 := hget i hi
            rw [List.getElem?_eq_getElem (by rw [hel]; exact hi), Option.bind_eq_some_iff] at h2
            obtain ⟨cs, h3, h4⟩ := h2
            obtain ⟨xs, c1, c2, c3⟩ := trod_rep hT hl n e cs _ hmem h4
            have c3 := c3 te hTe
            rw [hsz] at h3
            obtain ⟨_, _, h5⟩ := World.cells?_some h3
            have hspn : a.spot = none := by
              have h2 := hget 0 (by omega)
              rw [List.getElem?_eq_getElem (by omega), Option.bind_eq_some_iff] at h2
              obtain ⟨cs, h3, _⟩ := h2
              exact spot_row h3 (by omega)
            obtain ⟨bb, off, sp⟩ := a
            simp only at hspn
            subst hspn
            refine ⟨(xs, cs), c1, c2, c3, bb, off, rfl, fun j hj => ?_⟩
            have h7 := h5 j hj
            rw [add_none, add_none, Nat.add_assoc] at h7
            rw [h7, List.getD_eq_getElem?_getD]
            show cs[j]? = some (cs[j]?.getD undef)
            rw [List.getElem?_eq_getElem (by omega)]; rfl
          obtain ⟨ps, b1, b2⟩ := choose_list len key
          have hxl : ∀ p ∈ ps, p.1.length = te.size ∧ ∀ x ∈ p.1, x.one = true := by
            intro p hp
            obtain ⟨i, hi⟩ := List.getElem?_of_mem hp
            obtain ⟨c1, _, c3, _⟩ := b2 i p hi
            exact ⟨by rw [c1.len, c3], c1.one⟩
          have hcells : ∀ p ∈ ps, (mkEl te.row p.1).cells = p.1 := fun p hp => mkEl_cells (hxl p hp).2 fun hr => by rw [(hxl p hp).1, hrow1 hr]
          have hflat : (ps.map fun p => mkEl te.row p.1).flatMap V.cells = (ps.map (·.1)).flatten := by
            rw [List.flatMap_def, List.map_map]
            congr 1
            exact List.map_congr_left fun p hp => hcells p hp
          have hall : ∀ c ∈ ps.map (·.1), c.length = te.size := fun c hc => by
            obtain ⟨p, hp, rfl⟩ := List.mem_map.1 hc
            exact (hxl p hp).1
          have hlook : ∀ (k : Nat) (y : V), ((ps.map fun p => mkEl te.row p.1).flatMap V.cells)[k]? = some y → ∃ i j p, k = i * te.size + j ∧ j < te.size ∧ ps[i]? = some p ∧ p.1[j]? = some y := by
            intro k y hk
            rw [hflat] at hk
            have hk1 := (List.getElem?_eq_some_iff.1 hk).1
            rw [flatT_len _ hall, List.length_map, b1] at hk1
            have hpos : 0 < te.size := by omega
            have hi : k / te.size < len := (Nat.div_lt_iff_lt_mul hpos).2 hk1
            have hj : k % te.size < te.size := Nat.mod_lt _ hpos
            have hkk : k = k / te.size * te.size + k % te.size := by rw [Nat.mul_comm]; exact (Nat.div_add_mod k te.size).symm
            have hp : ps[k / te.size]? = some (ps[k / te.size]'(by omega)) := List.getElem?_eq_getElem (by omega)
            refine ⟨k / te.size, k % te.size, _, hkk, hj, hp, ?_⟩
            rw [hkk] at hk
            rw [flatT_get _ _ _ _ hall (by rw [List.getElem?_map, hp]; rfl) hj] at hk
            exact hk
          refine ⟨[.sl e (ps.map fun p => mkEl te.row p.1)], .single rfl (.sl e _ (some a) len cap (fun k => ((ps.map (·.2)).flatten).getD k undef) (by simp [b1]) hlc hcm (fun x hx => ?_) (fun k y hk => ?_) (fun k y hk => ?_)), ⟨he0, _, rfl, by simp [b1]; omega, fun y hy => ?_⟩, fun ty' e => hsize ty' e _⟩
          · obtain ⟨p, hp, rfl⟩ := List.mem_map.1 hx
            rw [hszs]
            exact okEl_mk (hxl p hp).1 (hxl p hp).2 fun hr => by rw [(hxl p hp).1, hrow1 hr]
          · obtain ⟨i, j, p, rfl, hj, hp, hy⟩ := hlook k y hk
            obtain ⟨_, _, c3, bb, off, c4, c5⟩ := b2 i p hp
            refine ⟨bb, off, by rw [c4], stable_imm T _ _, ?_⟩
            rw [c5 j hj]
            have : (ps.map (·.2)).flatten[i * te.size + j]? = p.2[j]? := flatT_get _ _ _ _ (fun c hc => by
              obtain ⟨q, hq, rfl⟩ := List.mem_map.1 hc
              obtain ⟨i', hi'⟩ := List.getElem?_of_mem hq
              exact (b2 i' q hi').2.2.1) (by rw [List.getElem?_map, hp]; rfl) hj
            rw [List.getD_eq_getElem?_getD, List.getD_eq_getElem?_getD, this]
          · obtain ⟨i, j, p, rfl, hj, hp, hy⟩ := hlook k y hk
            obtain ⟨c1, _, c3, _⟩ := b2 i p hp
            have : (ps.map (·.2)).flatten[i * te.size + j]? = p.2[j]? := flatT_get _ _ _ _ (fun c hc => by
              obtain ⟨q, hq, rfl⟩ := List.mem_map.1 hc
              obtain ⟨i', hi'⟩ := List.getElem?_of_mem hq
              exact (b2 i' q hi').2.2.1) (by rw [List.getElem?_map, hp]; rfl) hj
            have := c1.rep j y hy
            rw [List.getD_eq_getElem?_getD] at this ⊢
            rwa [‹(ps.map (·.2)).flatten[i * te.size + j]? = p.2[j]?›]
          · obtain ⟨p, hp, rfl⟩ := List.mem_map.1 hy
            obtain ⟨i, hi⟩ := List.getElem?_of_mem hp
            exact ⟨te, p.1, rfl, rfl, (b2 i p hi).2.1⟩
      · cases hre
    · rename_i fs
      simp only [Bool.and_eq_true] at hre
      obtain ⟨hco, hfa⟩ := hre
      obtain ⟨ys, m, e1, _, hlen, _, hg⟩ := DataW.trod_struct hd h
      obtain rfl : n = m := by omega
      rw [cellsOf_eq hT hTt] at hlen
      have main : ∀ (l' : List Field) (i off : Nat), fs.toList.drop i = l' → contigT T ty.size off l' = true → off ≤ ty.size → ∃ xs, RepC T w xs (cs.drop off) ∧ FitsFs (Fits T n) l' xs := by
        intro l'
        induction l' with
        | nil =>
          intro i off hdr hc ho
          have := Nat.eq_of_beq_eq_true hc
          refine ⟨[], ⟨by simp; omega, by simp, by simp⟩, rfl⟩
        | cons f l' ih =>
          intro i off hdr hc ho
          simp only [contigT, Bool.and_eq_true] at hc
          obtain ⟨hc1, hc2⟩ := hc
          have hc1 := Nat.eq_of_beq_eq_true hc1
          have hfi : fs.toList[i]? = some f := by
            have : (fs.toList.drop i)[0]? = some f := by rw [hdr]; rfl
            simpa using this
          have hfm : f ∈ fs.toList := List.mem_of_getElem? hfi
          have h1 := List.all_eq_true.1 hfa f hfm
          have hfl : f.type ∈ l := by
            have := List.all_eq_true.1 hlead f hfm
            obtain ⟨z, hz, hb⟩ := List.any_eq_true.1 this
            have := Nat.eq_of_beq_eq_true hb
            rw [this]; exact hz
          cases hTf : T f.type with
          | none => rw [hTf] at h1; simp at h1
          | some tf =>
          have h2 := hg i f (by simpa using hfi)
          rw [cellsOf_eq hT hTf, hc1] at h2
          have hle : off + tf.size ≤ ty.size := by
            have : ∀ (l' : List Field) (off : Nat), contigT T ty.size off l' = true → off ≤ ty.size := by
              intro l'
              induction l' with
              | nil => intro off hc; have := Nat.eq_of_beq_eq_true hc; omega
              | cons f l' ih => intro off hc; simp only [contigT, Bool.and_eq_true] at hc; have := ih _ hc.2; omega
            have := this l' _ hc2
            rw [sizes_eq hTf] at this
            exact this
          have hys : i < ys.length := by
            cases hyi : ys[i]? with
            | none =>
              have hfi2 : i < fs.size := by
                have := (List.getElem?_eq_some_iff.1 hfi).1
                simpa using this
              have : ys.length = fs.size := by assumption
              rw [this]; exact hfi2
            | some y => exact (List.getElem?_eq_some_iff.1 hyi).1
          rw [List.getElem?_eq_getElem hys] at h2
          obtain ⟨xs, c1, c2, _⟩ := trod_rep hT hl n f.type _ _ hfl h2
          obtain ⟨rs, d1, d2⟩ := ih (i + 1) (off + sizes T f.type) (by rw [List.drop_add_one_eq_tail_drop, hdr]; rfl) hc2 (by rw [sizes_eq hTf]; exact hle)
          refine ⟨xs ++ rs, ?_, xs, rs, rfl, c2, d2⟩
          have := c1.append d1
          rw [sizes_eq hTf, ← List.drop_drop, List.take_append_drop] at this
          exact this
      obtain ⟨xs, c1, c2⟩ := main fs.toList 0 0 rfl hco (Nat.zero_le _)
      exact ⟨xs, by simpa using c1, c2, fun ty' e => by cases e; exact hlen⟩
/-- An argument. -/
theorem arg_rep (hT : TypesOK P T) {l : List TypeId} (hl : closedT T l = true) {t : TypeId} (ht : t ∈ l) {v : Value} {d : DataW H} {ps : List MemPlace} (hrow : ∀ ty, T t = some ty → (ty.row = true → ∃ cs, v = .agg cs) ∧ (ty.row = false → v.cells = #[v]))
    (hd : DataW.Trod enc P w base spare held t v d ps) : ∃ n x, Fits T n t (V.cells x) ∧ RepV (immG T) w x v ∧ ∀ ty, T t = some ty → x = mkEl ty.row (V.cells x) := by
  obtain ⟨fuel, hf⟩ := hd
  obtain ⟨xs, h1, h2, h3⟩ := trod_rep hT hl fuel t _ _ ht hf
  cases hTt : T t with
  | none => cases fuel <;> simp [Fits, hTt] at h2
  | some ty =>
  have h3 := h3 ty hTt
  obtain ⟨r1, r2⟩ := hrow ty hTt
  cases hr : ty.row with
  | true =>
    obtain ⟨cs, rfl⟩ := r1 hr
    refine ⟨fuel, .agg xs, h2, .agg xs cs (by rw [h1.len]; rfl) fun k y hk => ?_, fun ty' e => by cases e; rw [hr]; rfl⟩
    have := h1.rep k y hk
    simpa [Value.cells, List.getD_eq_getElem?_getD, Array.getD_eq_getD_getElem?] using this
  | false =>
    have hv := r2 hr
    rw [hv] at h1 h3
    have hl1 := h1.len
    simp at hl1
    match xs, hl1 with
    | [x], _ =>
      have ho := h1.one x (by simp)
      have hc : V.cells x = [x] := by cases x <;> first | rfl | cases ho
      exact ⟨fuel, x, by rw [hc]; exact h2, by simpa using h1.rep 0 x rfl, fun ty' e => by cases e; rw [hr, hc]; rfl⟩
end
end Go.Proofs.YtjpmogajlnkihaaDoor.En

/- The engine, part 2s: rows: arguments that came in, what a law's function leaves. -/
namespace Go.Proofs.YtjpmogajlnkihaaDoor.En
open Go Go.RowKit Go.WideShapes
set_option linter.unusedVariables false
theorem own : ownKnob Tryd.prog.godebug = none := by kernel_rfl
theorem laidOut : laidOutB Tryd.prog = true := by kernel_rfl
section
variable {P : Program} {T : TypeId → Option Ty} {f : FuncId} {w : World}
def noEnv : Env := { d := 0, dom := fun _ _ => False }
/-- What a row knows of the package variables. -/
def Globs (w : World) : Prop := ∀ b ∈ globD, ∃ x, w.heap[b]? = some x ∧ GlobV b x
theorem imm_sk (h : Globs w) : SzOK T (immG T) w := ⟨rfl, fun b hb => ⟨rfl, h b hb⟩⟩
theorem walk_of {ds : List D} (hp : PureRet P T f ds [.v (.bool true) .no]) {us : List Value} (hr : RepDs noEnv (immG T) w [] ds us) (hgl : Globs w := by intro _ h; cases h) :
    Calls P f us.toArray w fun e w' => e = .returned (.bool true) ∧ Below w.heap.size w w' := by
  refine (hp noEnv (immG T) w us (imm_sk hgl) hr).mono ?_
  rintro e w' ⟨us', g', rfl, h1, h2⟩
  obtain ⟨l, hr'⟩ := h1 noEnv
  match us', l with
  | [u], _ =>
  have := hr' 0 _ rfl
  simp only [List.getD_cons_zero] at this
  cases this with
  | v x a v h ha =>
  cases h
  exact ⟨rfl, ⟨h2.grows.os, h2.grows.tape, h2.grows.output, h2.grows.size, h2.grows.old⟩⟩
theorem reps_nil : RepDs noEnv (immG T) w [] [] [] := ⟨rfl, fun k y h => by simp at h⟩
theorem reps_cons {d : D} {u : Value} {ds : List D} {us : List Value} (h : RepD noEnv (immG T) w [] d u) (hs : RepDs noEnv (immG T) w [] ds us) : RepDs noEnv (immG T) w [] (d :: ds) (u :: us) :=
  ⟨by simp [hs.1], fun k y hk => by
    rcases k with _ | k
    · simp at hk; subst hk; exact h
    · simpa using hs.2 k y (by simpa using hk)⟩
theorem rep_v {x : V} {u : Value} (h : RepV (immG T) w x u) : RepD noEnv (immG T) w [] (.v x .no) u := .v _ _ _ h trivial
theorem rep_agg {cs : List V} {u : Value} (h : RepV (immG T) w (.agg cs) u) : RepD noEnv (immG T) w [] (.agg (cs.map vD)) u := by
  cases h with
  | agg cs us hn hr =>
    refine .agg _ us (by simpa using hn) fun k y hk => ?_
    rw [List.getElem?_map, Option.map_eq_some_iff] at hk
    obtain ⟨z, hz, rfl⟩ := hk
    exact .v _ _ _ (hr k z hz) trivial
variable {H : Type} {enc : TypeId × Value → H} {base : Nat} {spare : Nat → Bool} {held : Bool} {r : Reach} {b0 : Nat} {t : TypeId} {v : Value} {d : DataW H} {ps : List MemPlace} {l : List TypeId}
theorem row_of (hT : TypesOK P T) {desc : TypeDesc} (ht : P.underlying t = some desc) {ty : Ty} (h : T t = some ty) : ty.desc = desc := by
  have := (hT t ty h).desc
  rw [ht] at this
  injection this with this
  exact this.symm
theorem cells_self {x : V} (h : x = mkEl false (V.cells x)) : V.cells x = [x] := by
  cases x with
  | agg cs =>
    exfalso
    simp only [V.cells, mkEl] at h
    cases cs with
    | nil => simp at h
    | cons c r =>
      have h' : V.agg (c :: r) = c := h
      have : _root_.SizeOf.sizeOf (V.agg (c :: r)) = _root_.SizeOf.sizeOf c := by rw [h']
      simp at this
      omega
  | _ => rfl
theorem fits_self (hT : TypesOK P T) {desc : TypeDesc} (ht : P.underlying t = some desc) (hnr : ∀ ty : Ty, ty.desc = desc → ty.row = false) {n : Nat} {x : V} (h1 : Fits T n t (V.cells x)) (h3 : ∀ ty, T t = some ty → x = mkEl ty.row (V.cells x)) : Fits T n t [x] := by
  cases hTt : T t with
  | none => cases n <;> simp [Fits, hTt] at h1
  | some ty =>
    have := h3 ty hTt
    rw [hnr ty (row_of hT ht hTt)] at this
    rw [← cells_self this]; exact h1
theorem arg_slice (hT : TypesOK P T) (hl : closedT T l = true) (hm : t ∈ l) {e : TypeId} (ht : P.underlying t = some (.slice e)) (hv : Value.okWide P w r b0 t v) (hd : DataW.Trod enc P w base spare held t v d ps) :
    ∃ n x, Fits T n t [x] ∧ RepV (immG T) w x v := by
  obtain ⟨A, n, c, rfl⟩ := okWide_slice ht hv
  obtain ⟨n, x, h1, h2, h3⟩ := arg_rep hT hl hm (fun ty hty => ⟨fun hr => (by rw [Ty.row, row_of hT ht hty] at hr; cases hr), fun _ => rfl⟩) hd
  exact ⟨n, x, fits_self hT ht (fun ty e => by rw [Ty.row, e]) h1 h3, h2⟩
theorem arg_struct (hT : TypesOK P T) (hl : closedT T l = true) (hm : t ∈ l) {fs : Array Field} (ht : P.underlying t = some (.struct fs)) (hv : Value.okWide P w r b0 t v) (hd : DataW.Trod enc P w base spare held t v d ps) :
    ∃ n cs, Fits T n t cs ∧ RepV (immG T) w (.agg cs) v := by
  obtain ⟨cs, rfl, _⟩ := okWide_struct ht hv
  obtain ⟨n, x, h1, h2, h3⟩ := arg_rep hT hl hm (fun ty hty => ⟨fun _ => ⟨cs, rfl⟩, fun hr => (by rw [Ty.row, row_of hT ht hty] at hr; cases hr)⟩) hd
  cases h2 with
  | agg ys us a b => exact ⟨n, ys, h1, .agg ys _ a b⟩
/-- What fits a type of one cell. -/
theorem fits_int {k : IntKind} {ty : Ty} (h : T t = some ty) (hd : ty.desc = .int k) {n : Nat} {xs : List V} (hf : Fits T n t xs) : ∃ i, xs = [.int k i] ∧ k.min ≤ i ∧ i ≤ k.max := by
  cases n with
  | zero => cases hf
  | succ n => unfold Fits at hf; rw [h] at hf; simp only [hd] at hf; exact hf
theorem fits_slice {e e' : TypeId} {ty te : Ty} (h : T t = some ty) (hd : ty.desc = .slice e) (hc : ty.cks = [.slc e']) (he : T e = some te) {n : Nat} {xs : List V} (hf : Fits T n t xs) :
    ∃ m ys, n = m + 1 ∧ xs = [.sl e ys] ∧ ys.length ≤ maxLen ∧ ∀ y ∈ ys, ∃ cs, y = mkEl te.row cs ∧ Fits T m e cs := by
  cases n with
  | zero => cases hf
  | succ n =>
    unfold Fits at hf; rw [h] at hf; simp only [hd, hc] at hf
    obtain ⟨rfl, ys, h1, h2, h3⟩ := hf
    refine ⟨n, ys, rfl, h1, h2, fun y hy => ?_⟩
    obtain ⟨te', cs, h4, h5, h6⟩ := h3 y hy
    rw [he] at h4
    injection h4 with h4
    subst h4
    exact ⟨cs, h5, h6⟩
theorem fits_struct {fs : Array Field} {ty : Ty} (h : T t = some ty) (hd : ty.desc = .struct fs) {n : Nat} {xs : List V} (hf : Fits T n t xs) : ∃ m, n = m + 1 ∧ FitsFs (Fits T m) fs.toList xs := by
  cases n with
  | zero => cases hf
  | succ n => unfold Fits at hf; rw [h] at hf; simp only [hd] at hf; exact ⟨n, rfl, hf⟩
end
end Go.Proofs.YtjpmogajlnkihaaDoor.En

/- Chapter 27's rows: what the arguments read as, the package variables, the wrap, the world behind the door's own run. -/
namespace Go.Proofs.YtjpmogajlnkihaaDoor.En
open Go Go.Joins Go.ChangeShapes Go.WideShapes Go.ChangeAt Go.RowKit Go.Deep
set_option linter.unusedVariables false
theorem T_int : T 3 = some ty3 := by kernel_rfl
theorem T_ins : T 23 = some ty23 := by kernel_rfl
theorem T_is : T 28 = some ty28 := by kernel_rfl
theorem ins_arg {n : Nat} {cs : List V} (h : Fits T n 23 cs) : ∃ i : In, cs = [.int .i64 i.op, .int .i64 i.a, .int .i64 i.b, .int .i64 i.c] := by
  obtain ⟨m, rfl, a, r1, rfl, ha, b, r2, rfl, hb, c, r3, rfl, hc, d, r4, rfl, hd, rfl⟩ := fits_struct T_ins rfl h
  obtain ⟨p, rfl, _⟩ := fits_int T_int rfl ha
  obtain ⟨q, rfl, _⟩ := fits_int T_int rfl hb
  obtain ⟨s, rfl, _⟩ := fits_int T_int rfl hc
  obtain ⟨v, rfl, _⟩ := fits_int T_int rfl hd
  exact ⟨⟨p, q, s, v⟩, rfl⟩
theorem is_of (n : Nat) : ∀ (ys : List V), (∀ y ∈ ys, ∃ cs, y = mkEl true cs ∧ Fits T n 23 cs) → ∃ l : List In, ys = iE l
  | [], _ => ⟨[], rfl⟩
  | y :: ys, h => by
    obtain ⟨l, h1⟩ := is_of n ys fun z hz => h z (List.mem_cons_of_mem _ hz)
    obtain ⟨cs, rfl, hc⟩ := h y (by simp)
    obtain ⟨i, rfl⟩ := ins_arg hc
    exact ⟨i :: l, by rw [h1]; rfl⟩
theorem is_arg {n : Nat} {x : V} (h : Fits T n 28 [x]) : ∃ l : List In, x = .sl 23 (iE l) := by
  obtain ⟨m, ys, rfl, e, h1, h2⟩ := fits_slice T_is rfl rfl T_ins h
  obtain ⟨l, rfl⟩ := is_of m ys h2
  injection e with e _
  exact ⟨l, e⟩
def argTys : List TypeId := [28, 23, 3, 29, 5, 9]
theorem argTys_ok : closedT T argTys = true := by kernel_rfl
/-! The package variables -/
theorem laid_at {P : Program} {w : World} {n : String} {d : DataW Unit} : ∀ {l : List (String × DataW Unit)} {ps : List MemPlace}, DataW.LaidVars P w l ps → (n, d) ∈ l →
    ∃ g t cs fuel p, P.globalNamed n = some g ∧ (P.globals[g]?).map (·.type) = some t ∧ w.var? P n = some cs ∧ DataW.trod (fun _ => ()) P w 0 (fun _ => true) false fuel t cs.toList = some (d, p)
  | [], ps, _, hm => by cases hm
  | (m, e) :: l, ps, h, hm => by
    obtain ⟨g, t, cs, fuel, p, q, h1, h2, h3, h4, h5, _⟩ := h
    rcases List.mem_cons.1 hm with hm | hm
    · injection hm with a b
      subst a b
      exact ⟨g, t, cs, fuel, p, h1, h2, h3, h4⟩
    · exact laid_at h5 hm
theorem tab_of {P : Program} {w : World} {name : String} {k : IntKind} {zs : List Int} {l : List (String × DataW Unit)} {g : Nat} {t e : TypeId} {n : Nat}
    (hg : P.globalNamed name = some g) (hty : (P.globals[g]?).map (·.type) = some t) (ht : P.underlying t = some (.array n e)) (he : P.underlying e = some (.int k)) (hce : P.cellsOf e = 1) (hct : P.cellsOf t = n)
    (h : laidMet P l w) (hm : (name, Lib.tabData k zs) ∈ l) : ∃ y f, w.heap[g]? = some (.cells (tabVs k zs) y f) := by
  obtain ⟨ps, hl, _⟩ := h
  obtain ⟨g', t', cs, fuel, p, h1, h2, h3, h4⟩ := laid_at hl hm
  obtain rfl := Option.some.inj (hg.symm.trans h1)
  obtain rfl := Option.some.inj (hty.symm.trans h2)
  have hc := Lib.cells_of_tab ht he hce hct h4
  unfold World.var? at h3
  rw [hg, Option.bind_some] at h3
  split at h3
  · rename_i cs' y f hh
    injection h3 with h3
    subst h3
    refine ⟨y, f, ?_⟩
    rw [hh]
    have : cs' = tabVs k zs := by
      unfold tabVs
      rw [← hc]
    rw [this]
  · cases h3
theorem space_data : Rows.laid_strings_asciiSpace (H := Unit) = Lib.tabData .u8 Lib.asciiSpaceTab := by kernel_rfl
theorem pow_data : Rows.laid_internal_strconv_uint64pow10 (H := Unit) = Lib.tabData .u64 Lib.pow10Tab := by kernel_rfl
theorem globs_of {w : World} (h : laidMetH Tryd.prog Rows.codeChecksRow.laid w) (hs : w.ShapedOpen Tryd.prog) : Globs w := by
  have h : laidMet Tryd.prog Rows.codeChecksRow.laid w := h
  have ms : ("strings.asciiSpace", Lib.tabData (H := Unit) .u8 Lib.asciiSpaceTab) ∈ Rows.codeChecksRow.laid := by
    rw [← space_data]
    simp [Rows.codeChecksRow]
  have mp : ("internal/strconv.uint64pow10", Lib.tabData (H := Unit) .u64 Lib.pow10Tab) ∈ Rows.codeChecksRow.laid := by
    rw [← pow_data]
    simp [Rows.codeChecksRow]
  obtain ⟨y1, f1, s1⟩ := tab_of (g := 0) (t := (Tryd.prog.globals[0]?).map (·.type) |>.getD 0) (e := 5) (n := 256) (by kernel_rfl) (by kernel_rfl) (by kernel_rfl) (by kernel_rfl) (by kernel_rfl) (by kernel_rfl) h ms
  obtain ⟨y2, f2, s2⟩ := tab_of (g := 3) (t := (Tryd.prog.globals[3]?).map (·.type) |>.getD 0) (e := (match Tryd.prog.underlying ((Tryd.prog.globals[3]?).map (·.type) |>.getD 0) with | some (.array _ e) => e | _ => 0)) (n := 20) (by kernel_rfl) (by kernel_rfl) (by kernel_rfl) (by kernel_rfl) (by kernel_rfl) (by kernel_rfl) h mp
  obtain ⟨m, hm⟩ := cell_of_shapedOpen_int (P := Tryd.prog) (g := 2) (t := 3) (zero := #[.int .i64 0]) hs (of_decide_eq_true (by kernel_rfl)) (by kernel_rfl) rfl (by kernel_rfl) (by kernel_rfl) Tryd.underlying3
  have hm : w.cell? ⟨2, 0, none⟩ = some (.int .i64 m) := hm
  intro b hb
  have hb : b = 0 ∨ b = 2 ∨ b = 3 := by simpa [globD] using hb
  rcases hb with rfl | rfl | rfl
  · exact ⟨_, s1, _, _, _, rfl, fun _ => rfl, fun e => absurd e (by decide), fun e => absurd e (by decide)⟩
  · unfold World.cell? at hm
    simp only at hm
    split at hm
    · rename_i vs t f hh
      exact ⟨_, hh, vs, t, f, rfl, fun e => absurd e (by decide), fun _ => ⟨m, by simpa using hm⟩, fun e => absurd e (by decide)⟩
    · cases hm
  · exact ⟨_, s2, _, _, _, rfl, fun e => absurd e (by decide), fun e => absurd e (by decide), fun _ => rfl⟩
/-! The wrap: with the listed variables and the world's shape -/
theorem handed_both {H : Type} {enc : TypeId × Value → H} {a : Assume} {C : Checked} {os : Os} {f : FuncId} {fn : Func} {s : ChangeSpec} {conds : List PathCond} {apart fresh handsOn again : Bool} {l : List (String × DataW Unit)}
    (own : ownKnob C.prog.godebug = none) (started : os.Started) (noInit : C.prog.inits.idxOf? f = none) (hfn : C.prog.funcs[f]? = some fn)
    (witness : ∃ (w : World) (tape : Tape) (i : Input), w.os = os ∧ (w.forCall tape i).Shaped C.prog ∧ i.vars = [] ∧ Input.okWide C.prog (w.forCall tape i) .any w.heap.size f i ∧
      ((s.pre enc C.prog fn conds apart (w.forCall tape i).memory i.args ∧ laidMetH C.prog l (w.forCall tape i).memory) ∧ sizedMet enc C.prog fn (OpenSpec.ofChange s) apart (w.forCall tape i).memory i.args) ∧ a.holds C.prog (lone (Frame.enter C.prog f i.args .normal) [] (w.forCall tape i)))
    (contract : ∀ (W : World) (base : Nat) (args : Array Value) (ds gs : List (DataW H)) (before : List MemPlace),
      (∀ (j : Nat) t v, fn.params[j]? = some t → args[j]? = some v → Value.okWide C.prog W .any base t v) →
      DataW.Whole enc C.prog fn.params.toList s.vars apart W args.toList ds gs before → laidMetH C.prog l W → W.ShapedOpen C.prog →
      Calls C.prog f args W fun e W' => ∃ v, e = .returned v ∧ s.post enc C.prog fn apart fresh handsOn again W args v W') :
    ReturnsInHanded a C os f .any (fun w args => (s.pre enc C.prog fn conds apart w args ∧ laidMetH C.prog l w) ∧ sizedMet enc C.prog fn (OpenSpec.ofChange s) apart w args) (s.post enc C.prog fn apart fresh handsOn again) := by
  refine returnsInHanded_of_calls own started noInit witness fun w tape i _ hsh _ hok hpre _ => ?_
  obtain ⟨_, _, _, fn', hfn', _, _, _, _, hval⟩ := hok
  obtain rfl : fn' = fn := Option.some.inj (hfn'.symm.trans hfn)
  obtain ⟨⟨⟨ds, gs, before, hw, _⟩, hl⟩, _⟩ := hpre
  refine (contract (w.forCall tape i) w.heap.size i.args ds gs before hval (DataW.Whole.of_heap (by rfl) hw) (hl.of_heap (by rfl)) hsh).mono fun e W' ⟨v, he, hp⟩ => ?_
  subst he
  exact ChangeSpec.post_blind hp
/-! The door's own world -/
theorem door_met (os : Os) (args : Array Value) : laidMetH Tryd.prog Rows.codeChecksRow.laid ((World.laidAll Tryd.prog os Rows.codeChecksRow.laid).forCall (fun _ _ => 0) ⟨#[], args, []⟩).memory := by
  rw [MakeChecks.laidMetH_plain _ _ _ (by kernel_rfl)]
  exact laidMet_laidAll _ (by kernel_rfl) (by kernel_rfl)
theorem door_shaped (os : Os) (args : Array Value) : ((World.laidAll Tryd.prog os Rows.codeChecksRow.laid).forCall (fun _ _ => 0) ⟨#[], args, []⟩).Shaped Tryd.prog :=
  World.shaped_of_ZipB (by kernel_rfl) (by kernel_rfl)
end Go.Proofs.YtjpmogajlnkihaaDoor.En

/- Functions of the program in plain Lean, joined to the program by evaluation; printed by a program. -/
namespace Go.Proofs.YtjpmogajlnkihaaDoor.En
open Go Go.Proofs
set_option maxRecDepth 100000
set_option linter.unusedVariables false
noncomputable def r_wSizes (rs : List D) (_ : Mem) : Option (Bool) :=
  match rs with
  | [.v (.bool r0) _] => some (r0)
  | _ => none
noncomputable def s_wSizes (N : Nat) (x0 : List V) (x1 : Int) (x2 : Int) (x3 : Int) (x4 : Int) : Option (Bool) := br (decide (200 < (↑x0.length : Int))) (some true) (bnd2 (s_cEncode N [V.agg [V.int IntKind.i64 x1, V.int IntKind.i64 x2, V.int IntKind.i64 x3, V.int IntKind.i64 x4]]) fun l0 n1 => bnd1 (s_cCheck N x1 x2 x3 x4) fun n2 => br (!decide (n1 = 0) == decide (n2 = 0)) (some false) (br (!decide (n1 = 0)) (br (decide ((↑l0.length : Int) = 0)) (bnd1 (s_awake N) fun b3 => some b3) (some false)) (br (decide ((↑l0.length : Int) < 1)) (some false) (br (decide (5 < (↑l0.length : Int))) (some false) (br (decide (0 < (↑l0.length : Int))) (at? l0 0 fun u4 => br (!decide (IntKind.i64.wrap (↑u4.toNat : Int) = x1)) (some false) (bnd2 (s_cEncode N x0) fun l5 n6 => br (!decide (n6 = 0)) (bnd1 (s_awake N) fun b7 => some b7) (br (decide ((0 + x0.length) * 32 ≤ 140737488355328)) (br (decide ((([] ++ x0).length + [V.agg [V.int IntKind.i64 x1, V.int IntKind.i64 x2, V.int IntKind.i64 x3, V.int IntKind.i64 x4]].length) * 32 ≤ 140737488355328)) (bnd2 (s_cEncode N ([] ++ x0 ++ [V.agg [V.int IntKind.i64 x1, V.int IntKind.i64 x2, V.int IntKind.i64 x3, V.int IntKind.i64 x4]])) fun l8 n9 => br (decide (n9 = 0)) (bnd1 (s_Join1 N [V.bytes l5, V.bytes l0]) fun l10 => bnd1 (s_Same1 N l8 l10) fun b11 => br b11 (bnd1 (s_awake N) fun b12 => some b12) (some false)) (some false)) none) none))) none)))))
noncomputable def cx_wSizes (N : Nat) : Cx := { T := T, isPure := tabP [⟨15, e_cEncode (s_cEncode N)⟩, ⟨12, e_cCheck (s_cCheck N)⟩, ⟨14, e_awake (s_awake N)⟩, ⟨23, e_Join1 (s_Join1 N)⟩, ⟨17, e_Same1 (s_Same1 N)⟩], pureK := fun g ds K => tabK [⟨15, e_cEncode (s_cEncode N)⟩, ⟨12, e_cCheck (s_cCheck N)⟩, ⟨14, e_awake (s_awake N)⟩, ⟨23, e_Join1 (s_Join1 N)⟩, ⟨17, e_Same1 (s_Same1 N)⟩] g ds K, memK := fun g dst ds m K => tabMK [] g dst ds m K, meth := tabM [], keep := fun _ => [], keepX := fun _ => [], loopT := fun _ _ _ _ => none, jumps := 9, dyn := true }
theorem s_wSizes_ok (N : Nat) (x0 : List V) (x1 : Int) (x2 : Int) (x3 : Int) (x4 : Int) : bodyK (cx_wSizes N) Tryd.f7 [.v (.sl 23 x0) .no, .agg [.v (.int .i64 x1) .no, .v (.int .i64 x2) .no, .v (.int .i64 x3) .no, .v (.int .i64 x4) .no]] [] r_wSizes = s_wSizes N x0 x1 x2 x3 x4 := by
  kernel_rfl
theorem co_wSizes (N : Nat) : CxOK Tryd.prog (cx_wSizes N) :=
  cxOK_of2 (es := [⟨15, e_cEncode (s_cEncode N)⟩, ⟨12, e_cCheck (s_cCheck N)⟩, ⟨14, e_awake (s_awake N)⟩, ⟨23, e_Join1 (s_Join1 N)⟩, ⟨17, e_Same1 (s_Same1 N)⟩]) (me := []) (ms := []) T_ok ⟨eo_cEncode _ (p_cEncode N), eo_cCheck _ (p_cCheck N), eo_awake _ (p_awake N), eo_Join1 _ (p_Join1 N), eo_Same1 _ (p_Same1 N), trivial⟩ trivial trivial rfl (fun _ _ _ _ => rfl) (fun _ _ _ _ _ _ => rfl) rfl
theorem lo_wSizes (N : Nat) : LoopsOK (cx_wSizes N) Tryd.f7.ntmps (bodyOf Tryd.f7) :=
  loopsOK_of (k := 0) (by kernel_rfl) trivial
theorem p_wSizes (N : Nat) (x0 : List V) (x1 : Int) (x2 : Int) (x3 : Int) (x4 : Int) (r0 : Bool) (h : s_wSizes N x0 x1 x2 x3 x4 = some r0) : PureRet Tryd.prog T 7 [.v (.sl 23 x0) .no, .agg [.v (.int .i64 x1) .no, .v (.int .i64 x2) .no, .v (.int .i64 x3) .no, .v (.int .i64 x4) .no]] [.v (.bool r0) .no] :=
  pure_of (cx := cx_wSizes N) (by kernel_rfl) (co_wSizes N) Tryd.func7 (by kernel_rfl) (by kernel_rfl) (lo_wSizes N) rfl rfl rfl (rf := r_wSizes) ((s_wSizes_ok N x0 x1 x2 x3 x4).trans h) (fun rs' m h => by
    unfold r_wSizes at h
    split at h
    · cases h; exact ⟨rfl, rfl⟩
    · cases h)
end Go.Proofs.YtjpmogajlnkihaaDoor.En

/- The printed functions, together. -/

/- The law Sizes. -/
namespace Go.Proofs.YtjpmogajlnkihaaDoor.En
open Go
set_option linter.unusedVariables false
section
variable (N : Nat) {R : Type}
theorem join_two (hN : 200000 < N) (a b : List UInt8) (ha : a.length ≤ 100000) (hb : b.length ≤ 100000) : s_Join1 N [V.bytes a, V.bytes b] = some (a ++ b) := by
  obtain ⟨t, ht⟩ : ∃ t, N = t + 4 := ⟨N - 4, by omega⟩
  have e2 : ∀ u l, S_Join1_3 N [V.bytes a, V.bytes b] (u + 1) l 2 (fun l0 => some l0) = some l := fun u l => id rfl
  have e1 : ∀ u l, S_Join1_3 N [V.bytes a, V.bytes b] (u + 1) l 1 (fun l0 => some l0) = br (decide ((l.length + b.length) * 1 ≤ 140737488355328)) (S_Join1_3 N [V.bytes a, V.bytes b] u (l ++ b) 2 fun l0 => some l0) none := fun u l => id rfl
  have e0 : ∀ u l, S_Join1_3 N [V.bytes a, V.bytes b] (u + 1) l 0 (fun l0 => some l0) = br (decide ((l.length + a.length) * 1 ≤ 140737488355328)) (S_Join1_3 N [V.bytes a, V.bytes b] u (l ++ a) 1 fun l0 => some l0) none := fun u l => id rfl
  have key : ∀ u, S_Join1_3 N [V.bytes a, V.bytes b] (u + 4) [] 0 (fun l0 => some l0) = some (a ++ b) := by
    intro u
    rw [e0, br_dec, if_pos (by simp <;> omega), List.nil_append, e1, br_dec, if_pos (by omega), e2]
  have := key t
  rw [← ht] at this
  exact this
theorem law_sizes (hN : 200000 < N) (l : List In) (i : In) : s_wSizes N (iE l) i.op i.a i.b i.c = some true := by
  have haw : (bnd1 (s_awake N) fun b3 => some b3) = some true := by rw [awake_eq N hN]; rfl
  unfold s_wSizes
  simp only [haw]
  rw [br_dec, iE_len]
  by_cases c : 200 < l.length
  · rw [if_pos (by omega)]
  rw [if_neg (by omega), show s_cEncode N [V.agg [V.int IntKind.i64 i.op, V.int IntKind.i64 i.a, V.int IntKind.i64 i.b, V.int IntKind.i64 i.c]] = _ from cEncode_eq N (by omega) [i] (by show 1 < N; omega) (by show 1 ≤ 50000; omega), cCheck_eq N (by omega) i]
  by_cases hc : chk i = 0
  · have he : encL [i] = (encI i, 0) := by
      rw [encL_of (by show 1 ≤ 256; omega) (by simp [firstE, hc])]
      simp [encAll]
    rw [he, bnd2_mk, bnd1_mk, hc]
    obtain ⟨h1, h5⟩ := encI_five hc
    obtain ⟨r0, r1⟩ := chk_range hc
    have hhd : ∀ (K : UInt8 → Option Bool), at? (encI i) 0 K = K (byteI i.op) := fun K => rfl
    have hop : IntKind.i64.wrap ((byteI i.op).toNat : Int) = i.op := by rw [w64_u8, byteI_toNat]; omega
    show br (!true == true) _ _ = _
    rw [show (!true == true) = false from rfl, br_f, br_not, br_dec, if_pos rfl, br_dec, if_neg (by omega), br_dec, if_neg (by omega), br_dec, if_pos (by omega), hhd, hop, br_not, br_dec, if_pos rfl, cEncode_eq N (by omega) l (by omega) (by omega)]
    rcases hx : encL l with ⟨x, e⟩
    have hxl := encL_len hx
    rw [bnd2_mk, br_not, br_dec]
    by_cases ce : e = 0
    · subst ce
      obtain ⟨q1, q2, rfl⟩ := encL_ok hx
      have hcat : ([] ++ iE l ++ [V.agg [V.int IntKind.i64 i.op, V.int IntKind.i64 i.a, V.int IntKind.i64 i.b, V.int IntKind.i64 i.c]]) = iE (l ++ [i]) := by rw [List.nil_append]; exact iE_snoc l i
      have hf : firstE (l ++ [i]) = 0 := by rw [firstE_app, if_pos q2]; simp [firstE, hc]
      have he2 : encL (l ++ [i]) = (encAll l ++ encI i, 0) := by
        rw [encL_of (by simp <;> omega) hf, encAll_app]
        simp [encAll]
      rw [if_pos rfl, br_dec, if_pos (by omega), br_dec, if_pos (by simp [iE_len] <;> omega), hcat, cEncode_eq N (by omega) (l ++ [i]) (by simp <;> omega) (by simp <;> omega), he2, bnd2_mk, br_dec, if_pos rfl,
        join_two N hN _ _ (by omega) (by omega), bnd1_mk, Same1_eq N _ _ (by simp <;> omega) (by simp <;> omega) (by simp <;> omega), bnd1_mk, decide_eq_true rfl]
      rfl
    · rw [if_neg ce]
  · have he : encL [i] = ([], chk i) := by
      unfold encL
      rw [if_neg (by show ¬ 256 < 1; omega), if_neg (by simp [firstE, hc])]
      simp [firstE, hc]
    rw [he, bnd2_mk, bnd1_mk]
    have hd : decide (chk i = 0) = false := decide_eq_false hc
    rw [hd]
    rfl
end
end Go.Proofs.YtjpmogajlnkihaaDoor.En

/- Joins. -/
