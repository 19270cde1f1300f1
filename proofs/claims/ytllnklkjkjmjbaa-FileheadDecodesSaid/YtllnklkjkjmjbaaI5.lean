/- Several texts in one. -/
import Derived.Test.YtllnklkjkjmjbaaI4
import Derived.Test.YtllnklkjkjmjbaaI2
import Derived.ProofKit
import Derived.OpenShut
import Derived.ChangeOld
import Derived.Below

set_option linter.unusedSimpArgs false
set_option linter.unusedVariables false
set_option linter.unusedSectionVars false
/- Functions of the program in plain Lean, joined to the program by evaluation; printed by a program. -/
namespace Go.Proofs.Ytllnklkjkjmjbaa.En
open Go Go.Proofs
set_option maxRecDepth 100000
set_option linter.unusedVariables false
noncomputable def e_fCheck {R : Type} (s : Int → Int → List UInt8 → Int → Int → Int → Int → Int → List V → Option (Int)) (ds : List D) (K : List D → Option R) : Option R :=
  match ds with
  | [.agg [.v (.int .i64 x0) .no, .v (.int .i64 x1) .no, .v (.bytes x2) .no, .v (.int .i64 x3) .no, .v (.int .i64 x4) .no, .v (.int .i64 x5) .no, .v (.int .i64 x6) .no, .v (.int .i64 x7) .no, .v (.sl 48 x8) .no]] => bnd1 (s x0 x1 x2 x3 x4 x5 x6 x7 x8) fun r0 => K [.v (.int .i64 r0) .no]
  | _ => none
noncomputable def r_fCheck (rs : List D) (_ : Mem) : Option (Int) :=
  match rs with
  | [.v (.int .i64 r0) _] => some (r0)
  | _ => none
noncomputable def F_fCheck_15 {R : Type} (N : Nat) (vs0 : List V) (n1 : Int) (n3 : Int) (n4 : Int) (l5 : List UInt8) (n6 : Int) (n7 : Int) (n8 : Int) (n9 : Int) (n10 : Int) (vs11 : List V) (Lq : Int → Option R) (K0 : Int → Option R) (K1 : Option R) (n2 : Int) : Option R := br (decide (n2 < n1)) (br (decide (0 ≤ n2) && decide (n2 < (↑vs0.length : Int))) (at? vs0 n2.toNat fun x0 => V.unInt IntKind.i64 x0 fun n1 => br (!decide (n1 = 0)) (K0 n1) (Lq (IntKind.i64.wrap (n2 + 1)))) none) K1
noncomputable def S_fCheck_15 {R : Type} (N : Nat) (vs0 : List V) (n1 : Int) (n3 : Int) (n4 : Int) (l5 : List UInt8) (n6 : Int) (n7 : Int) (n8 : Int) (n9 : Int) (n10 : Int) (vs11 : List V) : Nat → Int → (Int → Option R) → (Option R) → Option R | 0, _, _, _ => none | t + 1, n2, K0, K1 => F_fCheck_15 N vs0 n1 n3 n4 l5 n6 n7 n8 n9 n10 vs11 (fun n2 => S_fCheck_15 N vs0 n1 n3 n4 l5 n6 n7 n8 n9 n10 vs11 t n2 K0 K1) K0 K1 n2
noncomputable def l_fCheck_15 {R : Type} (N : Nat) (ds : List D) (m : Mem) (K : Ex → List D → Mem → Option R) : Option R :=
  match ds, m with
  | [(.ptr 0 1 0), (.v (.sl 27 vs0) (.own (.slot 80) 27)), (.v (.int .i64 n1) .no), (.v (.int .i64 n2) .no)], [[(1, ⟨25, [(.v (.int .i64 n3) .no), (.v (.int .i64 n4) .no), (.v (.bytes l5) .no), (.v (.int .i64 n6) .no), (.v (.int .i64 n7) .no), (.v (.int .i64 n8) .no), (.v (.int .i64 n9) .no), (.v (.int .i64 n10) .no), (.v (.sl 48 vs11) .no)]⟩)]] => S_fCheck_15 N vs0 n1 n3 n4 l5 n6 n7 n8 n9 n10 vs11 N n2 (fun a0 => K .ret [(.ptr 0 1 0), (.v (.int .i64 a0) .no)] [[(1, ⟨25, [(.v (.int .i64 n3) .no), (.v (.int .i64 n4) .no), (.v (.bytes l5) .no), (.v (.int .i64 n6) .no), (.v (.int .i64 n7) .no), (.v (.int .i64 n8) .no), (.v (.int .i64 n9) .no), (.v (.int .i64 n10) .no), (.v (.sl 48 vs11) .no)]⟩)]]) (K (.exit 1) [(.ptr 0 1 0), .any] [[(1, ⟨25, [(.v (.int .i64 n3) .no), (.v (.int .i64 n4) .no), (.v (.bytes l5) .no), (.v (.int .i64 n6) .no), (.v (.int .i64 n7) .no), (.v (.int .i64 n8) .no), (.v (.int .i64 n9) .no), (.v (.int .i64 n10) .no), (.v (.sl 48 vs11) .no)]⟩)]])
  | _, _ => none
noncomputable def s_fCheck (N : Nat) (x0 : Int) (x1 : Int) (x2 : List UInt8) (x3 : Int) (x4 : Int) (x5 : Int) (x6 : Int) (x7 : Int) (x8 : List V) : Option (Int) := br (decide (x1 < 1)) (some 1) (br (decide (5 < x1)) (some 1) (br (decide (x0 < 1)) (some 2) (br (decide (65534 < x0)) (some 2) (br (decide (x0 = 16383)) (some 2) (br (decide (16 < (↑x2.length : Int))) (some 3) (br (decide (0 < (↑x2.length : Int))) (br (!decide (x1 = 1)) (some 4) (br (decide (x3 < 0)) (some 2) (br (decide (30 < x3)) (some 2) (br (!decide (x3 = 0)) (br (decide (x1 = 1)) (some 4) (bnd1 (s_fnumber N x4 (decide (x1 = 2)) 1024) fun n0 => bnd1 (s_frecords N x1) fun b1 => bnd1 (s_fnumber N x5 b1 254) fun n2 => bnd1 (s_frecords N x1) fun b3 => bnd1 (s_fnumber N x6 b3 254) fun n4 => S_fCheck_15 N [V.int IntKind.i64 n0, V.int IntKind.i64 n2, V.int IntKind.i64 n4] (↑[V.int IntKind.i64 n0, V.int IntKind.i64 n2, V.int IntKind.i64 n4].length : Int) x0 x1 x2 x3 x4 x5 x6 x7 x8 N 0 (fun n5 => some n5) (br (decide (1024 < IntKind.i64.wrap (x5 * x6))) (some 3) (bnd1 (s_fisState N x7) fun b6 => br (!b6) (some 2) (bnd1 (s_aCheckRules N x8) fun n7 => some n7))))) (bnd1 (s_fnumber N x4 (decide (x1 = 2)) 1024) fun n8 => bnd1 (s_frecords N x1) fun b9 => bnd1 (s_fnumber N x5 b9 254) fun n10 => bnd1 (s_frecords N x1) fun b11 => bnd1 (s_fnumber N x6 b11 254) fun n12 => S_fCheck_15 N [V.int IntKind.i64 n8, V.int IntKind.i64 n10, V.int IntKind.i64 n12] (↑[V.int IntKind.i64 n8, V.int IntKind.i64 n10, V.int IntKind.i64 n12].length : Int) x0 x1 x2 x3 x4 x5 x6 x7 x8 N 0 (fun n13 => some n13) (br (decide (1024 < IntKind.i64.wrap (x5 * x6))) (some 3) (bnd1 (s_fisState N x7) fun b14 => br (!b14) (some 2) (bnd1 (s_aCheckRules N x8) fun n15 => some n15)))))))) (br (decide (x3 < 0)) (some 2) (br (decide (30 < x3)) (some 2) (br (!decide (x3 = 0)) (br (decide (x1 = 1)) (some 4) (bnd1 (s_fnumber N x4 (decide (x1 = 2)) 1024) fun n16 => bnd1 (s_frecords N x1) fun b17 => bnd1 (s_fnumber N x5 b17 254) fun n18 => bnd1 (s_frecords N x1) fun b19 => bnd1 (s_fnumber N x6 b19 254) fun n20 => S_fCheck_15 N [V.int IntKind.i64 n16, V.int IntKind.i64 n18, V.int IntKind.i64 n20] (↑[V.int IntKind.i64 n16, V.int IntKind.i64 n18, V.int IntKind.i64 n20].length : Int) x0 x1 x2 x3 x4 x5 x6 x7 x8 N 0 (fun n21 => some n21) (br (decide (1024 < IntKind.i64.wrap (x5 * x6))) (some 3) (bnd1 (s_fisState N x7) fun b22 => br (!b22) (some 2) (bnd1 (s_aCheckRules N x8) fun n23 => some n23))))) (bnd1 (s_fnumber N x4 (decide (x1 = 2)) 1024) fun n24 => bnd1 (s_frecords N x1) fun b25 => bnd1 (s_fnumber N x5 b25 254) fun n26 => bnd1 (s_frecords N x1) fun b27 => bnd1 (s_fnumber N x6 b27 254) fun n28 => S_fCheck_15 N [V.int IntKind.i64 n24, V.int IntKind.i64 n26, V.int IntKind.i64 n28] (↑[V.int IntKind.i64 n24, V.int IntKind.i64 n26, V.int IntKind.i64 n28].length : Int) x0 x1 x2 x3 x4 x5 x6 x7 x8 N 0 (fun n29 => some n29) (br (decide (1024 < IntKind.i64.wrap (x5 * x6))) (some 3) (bnd1 (s_fisState N x7) fun b30 => br (!b30) (some 2) (bnd1 (s_aCheckRules N x8) fun n31 => some n31)))))))))))))
noncomputable def cx_fCheck (N : Nat) : Cx := { T := T, isPure := tabP [⟨27, e_fnumber (s_fnumber N)⟩, ⟨28, e_frecords (s_frecords N)⟩, ⟨29, e_fisState (s_fisState N)⟩, ⟨30, e_aCheckRules (s_aCheckRules N)⟩], pureK := fun g ds K => tabK [⟨27, e_fnumber (s_fnumber N)⟩, ⟨28, e_frecords (s_frecords N)⟩, ⟨29, e_fisState (s_fisState N)⟩, ⟨30, e_aCheckRules (s_aCheckRules N)⟩] g ds K, memK := fun g dst ds m K => tabMK [] g dst ds m K, meth := tabM [], keep := fun r => match r with | 15 => [1, 80, 81, 82] | _ => [], keepX := fun r => match r with | 15 => [1, 2] | _ => [], loopT := fun r ds m K => match r with | 15 => l_fCheck_15 N ds m K | _ => none, jumps := 9 }
theorem F_fCheck_15_ok {R : Type} (N : Nat) (vs0 : List V) (n1 : Int) (n3 : Int) (n4 : Int) (l5 : List UInt8) (n6 : Int) (n7 : Int) (n8 : Int) (n9 : Int) (n10 : Int) (vs11 : List V) (n2 : Int) (L : List D → Mem → Option R) (K : Ex → List D → Mem → Option R) :
    roundK (fun st K => codeK (cx_fCheck N) (loopN Try.f11 0) st K) 105 [1, 80, 81, 82] [1, 2] L [(.ptr 0 1 0), (.v (.sl 27 vs0) (.own (.slot 80) 27)), (.v (.int .i64 n1) .no), (.v (.int .i64 n2) .no)] [[(1, ⟨25, [(.v (.int .i64 n3) .no), (.v (.int .i64 n4) .no), (.v (.bytes l5) .no), (.v (.int .i64 n6) .no), (.v (.int .i64 n7) .no), (.v (.int .i64 n8) .no), (.v (.int .i64 n9) .no), (.v (.int .i64 n10) .no), (.v (.sl 48 vs11) .no)]⟩)]] K = F_fCheck_15 N vs0 n1 n3 n4 l5 n6 n7 n8 n9 n10 vs11 (fun n2 => L [(.ptr 0 1 0), (.v (.sl 27 vs0) (.own (.slot 80) 27)), (.v (.int .i64 n1) .no), (.v (.int .i64 n2) .no)] [[(1, ⟨25, [(.v (.int .i64 n3) .no), (.v (.int .i64 n4) .no), (.v (.bytes l5) .no), (.v (.int .i64 n6) .no), (.v (.int .i64 n7) .no), (.v (.int .i64 n8) .no), (.v (.int .i64 n9) .no), (.v (.int .i64 n10) .no), (.v (.sl 48 vs11) .no)]⟩)]]) (fun a0 => K .ret [(.ptr 0 1 0), (.v (.int .i64 a0) .no)] [[(1, ⟨25, [(.v (.int .i64 n3) .no), (.v (.int .i64 n4) .no), (.v (.bytes l5) .no), (.v (.int .i64 n6) .no), (.v (.int .i64 n7) .no), (.v (.int .i64 n8) .no), (.v (.int .i64 n9) .no), (.v (.int .i64 n10) .no), (.v (.sl 48 vs11) .no)]⟩)]]) (K (.exit 1) [(.ptr 0 1 0), .any] [[(1, ⟨25, [(.v (.int .i64 n3) .no), (.v (.int .i64 n4) .no), (.v (.bytes l5) .no), (.v (.int .i64 n6) .no), (.v (.int .i64 n7) .no), (.v (.int .i64 n8) .no), (.v (.int .i64 n9) .no), (.v (.int .i64 n10) .no), (.v (.sl 48 vs11) .no)]⟩)]]) n2 := by
  kernel_rfl
theorem S_fCheck_15_ok {R : Type} (N : Nat) (vs0 : List V) (n1 : Int) (n3 : Int) (n4 : Int) (l5 : List UInt8) (n6 : Int) (n7 : Int) (n8 : Int) (n9 : Int) (n10 : Int) (vs11 : List V) (K : Ex → List D → Mem → Option R) : ∀ (t : Nat) (n2 : Int),
    loopK (fun st K => codeK (cx_fCheck N) (loopN Try.f11 0) st K) 105 [1, 80, 81, 82] [1, 2] t [(.ptr 0 1 0), (.v (.sl 27 vs0) (.own (.slot 80) 27)), (.v (.int .i64 n1) .no), (.v (.int .i64 n2) .no)] [[(1, ⟨25, [(.v (.int .i64 n3) .no), (.v (.int .i64 n4) .no), (.v (.bytes l5) .no), (.v (.int .i64 n6) .no), (.v (.int .i64 n7) .no), (.v (.int .i64 n8) .no), (.v (.int .i64 n9) .no), (.v (.int .i64 n10) .no), (.v (.sl 48 vs11) .no)]⟩)]] K = S_fCheck_15 N vs0 n1 n3 n4 l5 n6 n7 n8 n9 n10 vs11 t n2 (fun a0 => K .ret [(.ptr 0 1 0), (.v (.int .i64 a0) .no)] [[(1, ⟨25, [(.v (.int .i64 n3) .no), (.v (.int .i64 n4) .no), (.v (.bytes l5) .no), (.v (.int .i64 n6) .no), (.v (.int .i64 n7) .no), (.v (.int .i64 n8) .no), (.v (.int .i64 n9) .no), (.v (.int .i64 n10) .no), (.v (.sl 48 vs11) .no)]⟩)]]) (K (.exit 1) [(.ptr 0 1 0), .any] [[(1, ⟨25, [(.v (.int .i64 n3) .no), (.v (.int .i64 n4) .no), (.v (.bytes l5) .no), (.v (.int .i64 n6) .no), (.v (.int .i64 n7) .no), (.v (.int .i64 n8) .no), (.v (.int .i64 n9) .no), (.v (.int .i64 n10) .no), (.v (.sl 48 vs11) .no)]⟩)]])
  | 0, n2 => rfl
  | t + 1, n2 => (F_fCheck_15_ok N vs0 n1 n3 n4 l5 n6 n7 n8 n9 n10 vs11 n2 _ K).trans (congrArg (fun L => F_fCheck_15 N vs0 n1 n3 n4 l5 n6 n7 n8 n9 n10 vs11 L (fun a0 => K .ret [(.ptr 0 1 0), (.v (.int .i64 a0) .no)] [[(1, ⟨25, [(.v (.int .i64 n3) .no), (.v (.int .i64 n4) .no), (.v (.bytes l5) .no), (.v (.int .i64 n6) .no), (.v (.int .i64 n7) .no), (.v (.int .i64 n8) .no), (.v (.int .i64 n9) .no), (.v (.int .i64 n10) .no), (.v (.sl 48 vs11) .no)]⟩)]]) (K (.exit 1) [(.ptr 0 1 0), .any] [[(1, ⟨25, [(.v (.int .i64 n3) .no), (.v (.int .i64 n4) .no), (.v (.bytes l5) .no), (.v (.int .i64 n6) .no), (.v (.int .i64 n7) .no), (.v (.int .i64 n8) .no), (.v (.int .i64 n9) .no), (.v (.int .i64 n10) .no), (.v (.sl 48 vs11) .no)]⟩)]]) n2) (funext fun n2 => S_fCheck_15_ok N vs0 n1 n3 n4 l5 n6 n7 n8 n9 n10 vs11 K t n2))
theorem s_fCheck_ok (N : Nat) (x0 : Int) (x1 : Int) (x2 : List UInt8) (x3 : Int) (x4 : Int) (x5 : Int) (x6 : Int) (x7 : Int) (x8 : List V) : bodyK (cx_fCheck N) Try.f11 [.agg [.v (.int .i64 x0) .no, .v (.int .i64 x1) .no, .v (.bytes x2) .no, .v (.int .i64 x3) .no, .v (.int .i64 x4) .no, .v (.int .i64 x5) .no, .v (.int .i64 x6) .no, .v (.int .i64 x7) .no, .v (.sl 48 x8) .no]] [] r_fCheck = s_fCheck N x0 x1 x2 x3 x4 x5 x6 x7 x8 := by
  kernel_rfl
theorem go_fCheck : Goes Try.prog 11 := goes_of Try.func11 (by kernel_rfl) (c := bodyOf Try.f11) (by kernel_rfl)
theorem eo_fCheck (s : Int → Int → List UInt8 → Int → Int → Int → Int → Int → List V → Option (Int)) (hs : ∀ (x0 : Int) (x1 : Int) (x2 : List UInt8) (x3 : Int) (x4 : Int) (x5 : Int) (x6 : Int) (x7 : Int) (x8 : List V) (r0 : Int), s x0 x1 x2 x3 x4 x5 x6 x7 x8 = some r0 → PureRet Try.prog T 11 [.agg [.v (.int .i64 x0) .no, .v (.int .i64 x1) .no, .v (.bytes x2) .no, .v (.int .i64 x3) .no, .v (.int .i64 x4) .no, .v (.int .i64 x5) .no, .v (.int .i64 x6) .no, .v (.int .i64 x7) .no, .v (.sl 48 x8) .no]] [.v (.int .i64 r0) .no]) : EntOK Try.prog T ⟨11, e_fCheck s⟩ := by
  refine ⟨go_fCheck, fun R ds K r h => ?_, fun R ds K => ?_⟩
  · simp only [e_fCheck] at h
    split at h
    · obtain ⟨r0, h1, h2⟩ := bnd1_some h
      exact ⟨_, h2, hs _ _ _ _ _ _ _ _ _ _ h1⟩
    · cases h
  · simp only [e_fCheck]
    split
    · rw [bnd1_b]; rfl
    · rfl
theorem co_fCheck (N : Nat) : CxOK Try.prog (cx_fCheck N) :=
  cxOK_of2 (es := [⟨27, e_fnumber (s_fnumber N)⟩, ⟨28, e_frecords (s_frecords N)⟩, ⟨29, e_fisState (s_fisState N)⟩, ⟨30, e_aCheckRules (s_aCheckRules N)⟩]) (me := []) (ms := []) T_ok ⟨eo_fnumber _ (p_fnumber N), eo_frecords _ (p_frecords N), eo_fisState _ (p_fisState N), eo_aCheckRules _ (p_aCheckRules N), trivial⟩ trivial trivial rfl (fun _ _ _ _ => rfl) (fun _ _ _ _ _ _ => rfl) rfl
theorem lk_fCheck_15 (N : Nat) : LoopOK (cx_fCheck N) 105 (loopN Try.f11 0) := by
  refine loopOK_of (rid := 15) (by kernel_rfl) rfl rfl fun R ds m K r h => ?_
  have h : l_fCheck_15 N ds m K = some r := h
  unfold l_fCheck_15 at h
  split at h
  · exact ⟨N, Eq.trans (S_fCheck_15_ok ..) h⟩
  · cases h
theorem lo_fCheck (N : Nat) : LoopsOK (cx_fCheck N) Try.f11.ntmps (bodyOf Try.f11) :=
  loopsOK_of (k := 1) (by kernel_rfl) ⟨trivial, lk_fCheck_15 N⟩
theorem p_fCheck (N : Nat) (x0 : Int) (x1 : Int) (x2 : List UInt8) (x3 : Int) (x4 : Int) (x5 : Int) (x6 : Int) (x7 : Int) (x8 : List V) (r0 : Int) (h : s_fCheck N x0 x1 x2 x3 x4 x5 x6 x7 x8 = some r0) : PureRet Try.prog T 11 [.agg [.v (.int .i64 x0) .no, .v (.int .i64 x1) .no, .v (.bytes x2) .no, .v (.int .i64 x3) .no, .v (.int .i64 x4) .no, .v (.int .i64 x5) .no, .v (.int .i64 x6) .no, .v (.int .i64 x7) .no, .v (.sl 48 x8) .no]] [.v (.int .i64 r0) .no] :=
  pure_of (cx := cx_fCheck N) (by kernel_rfl) (co_fCheck N) Try.func11 (by kernel_rfl) (by kernel_rfl) (lo_fCheck N) rfl rfl rfl (rf := r_fCheck) ((s_fCheck_ok N x0 x1 x2 x3 x4 x5 x6 x7 x8).trans h) (fun rs' m h => by
    unfold r_fCheck at h
    split at h
    · cases h; exact ⟨rfl, rfl⟩
    · cases h)
noncomputable def e_fput {R : Type} (s : Int → List UInt8 → List V → Option (List V)) (dst : Nat) (ds : List D) (m : Mem) (K : List D → Mem → Option R) : Option R :=
  match ds with
  | [.ptr (kv0 + 1) sv0 0, .v (.int .i64 x0) .no, .v (.bytes x1) .no] => viewK [(kv0, sv0)] m fun Bs => (match Bs with
    | [⟨56, [.v (.sl 62 y0) (.own (.slot 0) 62)]⟩] => bnd1 (s x0 x1 y0) fun z0 => putAllK [(kv0, sv0)] [⟨56, [.v (.sl 62 z0) (.own (.slot 0) 62)]⟩] m fun m' => K [] m'
    | _ => none)
  | _ => none
theorem go_fput : Goes Try.prog 59 := goes_of Try.func59 (by kernel_rfl) (c := bodyOf Try.f59) (by kernel_rfl)
theorem eo_fput (s : Int → List UInt8 → List V → Option (List V)) (hs : ∀ (x0 : Int) (x1 : List UInt8) (y0 : List V) (z0 : List V), s x0 x1 y0 = some z0 → ViewRet Try.prog T 59 [.ptr 1 0 0, .v (.int .i64 x0) .no, .v (.bytes x1) .no] [⟨56, [.v (.sl 62 y0) (.own (.slot 0) 62)]⟩] [] [⟨56, [.v (.sl 62 z0) (.own (.slot 0) 62)]⟩]) : MEntOK Try.prog T ⟨59, e_fput s⟩ := by
  refine ⟨go_fput, fun R dst ds m K r h => ?_⟩
  simp only [e_fput] at h
  split at h
  · obtain ⟨Bs, a1, a2, a3, h⟩ := viewK_some h
    split at h
    · obtain ⟨z0, h1, h2⟩ := bnd1_some h
      rw [putAllK_eq] at h2
      exact ⟨_, _, h2, hs _ _ _ _ h1 _ _ m dst a1 a2 a3 ⟨aren_ptr _ rfl, aren_v _, aren_v _, trivial⟩⟩
    · cases h
  · cases h
noncomputable def e_fwide {R : Type} (s : Int → Int → List V → Option (List V)) (dst : Nat) (ds : List D) (m : Mem) (K : List D → Mem → Option R) : Option R :=
  match ds with
  | [.ptr (kv0 + 1) sv0 0, .v (.int .i64 x0) .no, .v (.int .i64 x1) .no] => viewK [(kv0, sv0)] m fun Bs => (match Bs with
    | [⟨56, [.v (.sl 62 y0) (.own (.slot 0) 62)]⟩] => bnd1 (s x0 x1 y0) fun z0 => putAllK [(kv0, sv0)] [⟨56, [.v (.sl 62 z0) (.own (.slot 0) 62)]⟩] m fun m' => K [] m'
    | _ => none)
  | _ => none
noncomputable def r_fwide {α : Type} (K : List V → Option α) (rs : List D) (m : Mem) : Option α :=
  match rs, m with
  | [], [_, [(0, ⟨56, [.v (.sl 62 z0) (.own (.slot 0) 62)]⟩)]] => K z0
  | _, _ => none
noncomputable def C_fwide {R : Type} (N : Nat) (x0 : Int) (x1 : Int) (y0 : List V) (K0 : List V → Option R) : Option R := bnd2 (s_Put N x1 2) fun l0 n1 => bnd1 (s_fput N x0 l0 y0) fun l2 => K0 l2
noncomputable def s_fwide (N : Nat) (x0 : Int) (x1 : Int) (y0 : List V) : Option (List V) := C_fwide N x0 x1 y0 (fun z0 => some z0)
noncomputable def cx_fwide (N : Nat) : Cx := { T := T, isPure := tabP [⟨86, e_Put (s_Put N)⟩], pureK := fun g ds K => tabK [⟨86, e_Put (s_Put N)⟩] g ds K, memK := fun g dst ds m K => tabMK [⟨59, e_fput (s_fput N)⟩] g dst ds m K, meth := tabM [], keep := fun _ => [], keepX := fun _ => [], loopT := fun _ _ _ _ => none, jumps := 9 }
theorem C_fwide_ok {R : Type} (N : Nat) (x0 : Int) (x1 : Int) (y0 : List V) (K : List V → Option R) : bodyK (cx_fwide N) Try.f60 [.ptr 1 0 0, .v (.int .i64 x0) .no, .v (.int .i64 x1) .no] [frOf 0 [⟨56, [.v (.sl 62 y0) (.own (.slot 0) 62)]⟩]] (r_fwide K) = C_fwide N x0 x1 y0 (fun z0 => K z0) := by
  kernel_rfl
theorem go_fwide : Goes Try.prog 60 := goes_of Try.func60 (by kernel_rfl) (c := bodyOf Try.f60) (by kernel_rfl)
theorem eo_fwide (s : Int → Int → List V → Option (List V)) (hs : ∀ (x0 : Int) (x1 : Int) (y0 : List V) (z0 : List V), s x0 x1 y0 = some z0 → ViewRet Try.prog T 60 [.ptr 1 0 0, .v (.int .i64 x0) .no, .v (.int .i64 x1) .no] [⟨56, [.v (.sl 62 y0) (.own (.slot 0) 62)]⟩] [] [⟨56, [.v (.sl 62 z0) (.own (.slot 0) 62)]⟩]) : MEntOK Try.prog T ⟨60, e_fwide s⟩ := by
  refine ⟨go_fwide, fun R dst ds m K r h => ?_⟩
  simp only [e_fwide] at h
  split at h
  · obtain ⟨Bs, a1, a2, a3, h⟩ := viewK_some h
    split at h
    · obtain ⟨z0, h1, h2⟩ := bnd1_some h
      rw [putAllK_eq] at h2
      exact ⟨_, _, h2, hs _ _ _ _ h1 _ _ m dst a1 a2 a3 ⟨aren_ptr _ rfl, aren_v _, aren_v _, trivial⟩⟩
    · cases h
  · cases h
theorem co_fwide (N : Nat) : CxOK Try.prog (cx_fwide N) :=
  cxOK_of2 (es := [⟨86, e_Put (s_Put N)⟩]) (me := [⟨59, e_fput (s_fput N)⟩]) (ms := []) T_ok ⟨eo_Put _ (p_Put N), trivial⟩ ⟨eo_fput _ (p_fput N), trivial⟩ trivial rfl (fun _ _ _ _ => rfl) (fun _ _ _ _ _ _ => rfl) rfl
theorem lo_fwide (N : Nat) : LoopsOK (cx_fwide N) Try.f60.ntmps (bodyOf Try.f60) :=
  loopsOK_of (k := 0) (by kernel_rfl) trivial
open Classical in
theorem p_fwide (N : Nat) (x0 : Int) (x1 : Int) (y0 : List V) (z0 : List V) (h : s_fwide N x0 x1 y0 = some z0) : ViewRet Try.prog T 60 [.ptr 1 0 0, .v (.int .i64 x0) .no, .v (.int .i64 x1) .no] [⟨56, [.v (.sl 62 y0) (.own (.slot 0) 62)]⟩] [] [⟨56, [.v (.sl 62 z0) (.own (.slot 0) 62)]⟩] := by
  refine view_of (Bs := [⟨56, [.v (.sl 62 y0) (.own (.slot 0) 62)]⟩]) (Bs' := [⟨56, [.v (.sl 62 z0) (.own (.slot 0) 62)]⟩]) (cx := cx_fwide N) (by kernel_rfl) (co_fwide N) Try.func60 (by kernel_rfl) (by kernel_rfl) (lo_fwide N) rfl rfl rfl rfl (rf := r_fwide (fun z'0 => some z'0)) (r := z0) ?_ ?_
  · exact (C_fwide_ok N x0 x1 y0 _).trans h
  · intro rs' m' hx
    unfold r_fwide at hx
    split at hx
    · cases hx; exact ⟨rfl, rfl, _, rfl⟩
    · cases hx
noncomputable def e_fkinds {R : Type} (s : Int → Int → List UInt8 → Int → Int → Int → Int → Int → List V → List V → Option (List V)) (dst : Nat) (ds : List D) (m : Mem) (K : List D → Mem → Option R) : Option R :=
  match ds with
  | [.ptr (kv0 + 1) sv0 0, .agg [.v (.int .i64 x0) .no, .v (.int .i64 x1) .no, .v (.bytes x2) .no, .v (.int .i64 x3) .no, .v (.int .i64 x4) .no, .v (.int .i64 x5) .no, .v (.int .i64 x6) .no, .v (.int .i64 x7) .no, .v (.sl 48 x8) .no]] => viewK [(kv0, sv0)] m fun Bs => (match Bs with
    | [⟨56, [.v (.sl 62 y0) (.own (.slot 0) 62)]⟩] => bnd1 (s x0 x1 x2 x3 x4 x5 x6 x7 x8 y0) fun z0 => putAllK [(kv0, sv0)] [⟨56, [.v (.sl 62 z0) (.own (.slot 0) 62)]⟩] m fun m' => K [] m'
    | _ => none)
  | _ => none
noncomputable def r_fkinds {α : Type} (K : List V → Option α) (rs : List D) (m : Mem) : Option α :=
  match rs, m with
  | [], [_, [(0, ⟨56, [.v (.sl 62 z0) (.own (.slot 0) 62)]⟩)]] => K z0
  | _, _ => none
noncomputable def C_fkinds {R : Type} (N : Nat) (x0 : Int) (x1 : Int) (x2 : List UInt8) (x3 : Int) (x4 : Int) (x5 : Int) (x6 : Int) (x7 : Int) (x8 : List V) (y0 : List V) (K0 : List V → Option R) : Option R := bnd1 (s_frecords N x1) fun b0 => br b0 (bnd1 (s_fput N 130 [UInt8.ofNat (IntKind.u8.wrap x1).toNat, UInt8.ofNat (IntKind.u8.wrap x5).toNat, UInt8.ofNat (IntKind.u8.wrap x6).toNat] y0) fun l1 => K0 l1) (bnd1 (s_fput N 130 [UInt8.ofNat (IntKind.u8.wrap x1).toNat] y0) fun l2 => K0 l2)
noncomputable def s_fkinds (N : Nat) (x0 : Int) (x1 : Int) (x2 : List UInt8) (x3 : Int) (x4 : Int) (x5 : Int) (x6 : Int) (x7 : Int) (x8 : List V) (y0 : List V) : Option (List V) := C_fkinds N x0 x1 x2 x3 x4 x5 x6 x7 x8 y0 (fun z0 => some z0)
noncomputable def cx_fkinds (N : Nat) : Cx := { T := T, isPure := tabP [⟨28, e_frecords (s_frecords N)⟩], pureK := fun g ds K => tabK [⟨28, e_frecords (s_frecords N)⟩] g ds K, memK := fun g dst ds m K => tabMK [⟨59, e_fput (s_fput N)⟩] g dst ds m K, meth := tabM [], keep := fun _ => [], keepX := fun _ => [], loopT := fun _ _ _ _ => none, jumps := 9 }
theorem C_fkinds_ok {R : Type} (N : Nat) (x0 : Int) (x1 : Int) (x2 : List UInt8) (x3 : Int) (x4 : Int) (x5 : Int) (x6 : Int) (x7 : Int) (x8 : List V) (y0 : List V) (K : List V → Option R) : bodyK (cx_fkinds N) Try.f34 [.ptr 1 0 0, .agg [.v (.int .i64 x0) .no, .v (.int .i64 x1) .no, .v (.bytes x2) .no, .v (.int .i64 x3) .no, .v (.int .i64 x4) .no, .v (.int .i64 x5) .no, .v (.int .i64 x6) .no, .v (.int .i64 x7) .no, .v (.sl 48 x8) .no]] [frOf 0 [⟨56, [.v (.sl 62 y0) (.own (.slot 0) 62)]⟩]] (r_fkinds K) = C_fkinds N x0 x1 x2 x3 x4 x5 x6 x7 x8 y0 (fun z0 => K z0) := by
  kernel_rfl
theorem go_fkinds : Goes Try.prog 34 := goes_of Try.func34 (by kernel_rfl) (c := bodyOf Try.f34) (by kernel_rfl)
theorem eo_fkinds (s : Int → Int → List UInt8 → Int → Int → Int → Int → Int → List V → List V → Option (List V)) (hs : ∀ (x0 : Int) (x1 : Int) (x2 : List UInt8) (x3 : Int) (x4 : Int) (x5 : Int) (x6 : Int) (x7 : Int) (x8 : List V) (y0 : List V) (z0 : List V), s x0 x1 x2 x3 x4 x5 x6 x7 x8 y0 = some z0 → ViewRet Try.prog T 34 [.ptr 1 0 0, .agg [.v (.int .i64 x0) .no, .v (.int .i64 x1) .no, .v (.bytes x2) .no, .v (.int .i64 x3) .no, .v (.int .i64 x4) .no, .v (.int .i64 x5) .no, .v (.int .i64 x6) .no, .v (.int .i64 x7) .no, .v (.sl 48 x8) .no]] [⟨56, [.v (.sl 62 y0) (.own (.slot 0) 62)]⟩] [] [⟨56, [.v (.sl 62 z0) (.own (.slot 0) 62)]⟩]) : MEntOK Try.prog T ⟨34, e_fkinds s⟩ := by
  refine ⟨go_fkinds, fun R dst ds m K r h => ?_⟩
  simp only [e_fkinds] at h
  split at h
  · obtain ⟨Bs, a1, a2, a3, h⟩ := viewK_some h
    split at h
    · obtain ⟨z0, h1, h2⟩ := bnd1_some h
      rw [putAllK_eq] at h2
      exact ⟨_, _, h2, hs _ _ _ _ _ _ _ _ _ _ _ h1 _ _ m dst a1 a2 a3 ⟨aren_ptr _ rfl, aren_agg ⟨aren_v _, aren_v _, aren_v _, aren_v _, aren_v _, aren_v _, aren_v _, aren_v _, aren_v _, trivial⟩, trivial⟩⟩
    · cases h
  · cases h
theorem co_fkinds (N : Nat) : CxOK Try.prog (cx_fkinds N) :=
  cxOK_of2 (es := [⟨28, e_frecords (s_frecords N)⟩]) (me := [⟨59, e_fput (s_fput N)⟩]) (ms := []) T_ok ⟨eo_frecords _ (p_frecords N), trivial⟩ ⟨eo_fput _ (p_fput N), trivial⟩ trivial rfl (fun _ _ _ _ => rfl) (fun _ _ _ _ _ _ => rfl) rfl
theorem lo_fkinds (N : Nat) : LoopsOK (cx_fkinds N) Try.f34.ntmps (bodyOf Try.f34) :=
  loopsOK_of (k := 0) (by kernel_rfl) trivial
open Classical in
theorem p_fkinds (N : Nat) (x0 : Int) (x1 : Int) (x2 : List UInt8) (x3 : Int) (x4 : Int) (x5 : Int) (x6 : Int) (x7 : Int) (x8 : List V) (y0 : List V) (z0 : List V) (h : s_fkinds N x0 x1 x2 x3 x4 x5 x6 x7 x8 y0 = some z0) : ViewRet Try.prog T 34 [.ptr 1 0 0, .agg [.v (.int .i64 x0) .no, .v (.int .i64 x1) .no, .v (.bytes x2) .no, .v (.int .i64 x3) .no, .v (.int .i64 x4) .no, .v (.int .i64 x5) .no, .v (.int .i64 x6) .no, .v (.int .i64 x7) .no, .v (.sl 48 x8) .no]] [⟨56, [.v (.sl 62 y0) (.own (.slot 0) 62)]⟩] [] [⟨56, [.v (.sl 62 z0) (.own (.slot 0) 62)]⟩] := by
  refine view_of (Bs := [⟨56, [.v (.sl 62 y0) (.own (.slot 0) 62)]⟩]) (Bs' := [⟨56, [.v (.sl 62 z0) (.own (.slot 0) 62)]⟩]) (cx := cx_fkinds N) (by kernel_rfl) (co_fkinds N) Try.func34 (by kernel_rfl) (by kernel_rfl) (lo_fkinds N) rfl rfl rfl rfl (rf := r_fkinds (fun z'0 => some z'0)) (r := z0) ?_ ?_
  · exact (C_fkinds_ok N x0 x1 x2 x3 x4 x5 x6 x7 x8 y0 _).trans h
  · intro rs' m' hx
    unfold r_fkinds at hx
    split at hx
    · cases hx; exact ⟨rfl, rfl, _, rfl⟩
    · cases hx
noncomputable def e_fident {R : Type} (s : Int → Int → List UInt8 → Int → Int → Int → Int → Int → List V → List V → Option (List V)) (dst : Nat) (ds : List D) (m : Mem) (K : List D → Mem → Option R) : Option R :=
  match ds with
  | [.ptr (kv0 + 1) sv0 0, .agg [.v (.int .i64 x0) .no, .v (.int .i64 x1) .no, .v (.bytes x2) .no, .v (.int .i64 x3) .no, .v (.int .i64 x4) .no, .v (.int .i64 x5) .no, .v (.int .i64 x6) .no, .v (.int .i64 x7) .no, .v (.sl 48 x8) .no]] => viewK [(kv0, sv0)] m fun Bs => (match Bs with
    | [⟨56, [.v (.sl 62 y0) (.own (.slot 0) 62)]⟩] => bnd1 (s x0 x1 x2 x3 x4 x5 x6 x7 x8 y0) fun z0 => putAllK [(kv0, sv0)] [⟨56, [.v (.sl 62 z0) (.own (.slot 0) 62)]⟩] m fun m' => K [] m'
    | _ => none)
  | _ => none
noncomputable def r_fident {α : Type} (K : List V → Option α) (rs : List D) (m : Mem) : Option α :=
  match rs, m with
  | [], [_, [(0, ⟨56, [.v (.sl 62 z0) (.own (.slot 0) 62)]⟩)]] => K z0
  | _, _ => none
noncomputable def C_fident {R : Type} (N : Nat) (x0 : Int) (x1 : Int) (x2 : List UInt8) (x3 : Int) (x4 : Int) (x5 : Int) (x6 : Int) (x7 : Int) (x8 : List V) (y0 : List V) (K0 : List V → Option R) : Option R := bnd1 (s_fwide N 131 x0 y0) fun l0 => K0 l0
noncomputable def s_fident (N : Nat) (x0 : Int) (x1 : Int) (x2 : List UInt8) (x3 : Int) (x4 : Int) (x5 : Int) (x6 : Int) (x7 : Int) (x8 : List V) (y0 : List V) : Option (List V) := C_fident N x0 x1 x2 x3 x4 x5 x6 x7 x8 y0 (fun z0 => some z0)
noncomputable def cx_fident (N : Nat) : Cx := { T := T, isPure := tabP [], pureK := fun g ds K => tabK [] g ds K, memK := fun g dst ds m K => tabMK [⟨60, e_fwide (s_fwide N)⟩] g dst ds m K, meth := tabM [], keep := fun _ => [], keepX := fun _ => [], loopT := fun _ _ _ _ => none, jumps := 9 }
theorem C_fident_ok {R : Type} (N : Nat) (x0 : Int) (x1 : Int) (x2 : List UInt8) (x3 : Int) (x4 : Int) (x5 : Int) (x6 : Int) (x7 : Int) (x8 : List V) (y0 : List V) (K : List V → Option R) : bodyK (cx_fident N) Try.f35 [.ptr 1 0 0, .agg [.v (.int .i64 x0) .no, .v (.int .i64 x1) .no, .v (.bytes x2) .no, .v (.int .i64 x3) .no, .v (.int .i64 x4) .no, .v (.int .i64 x5) .no, .v (.int .i64 x6) .no, .v (.int .i64 x7) .no, .v (.sl 48 x8) .no]] [frOf 0 [⟨56, [.v (.sl 62 y0) (.own (.slot 0) 62)]⟩]] (r_fident K) = C_fident N x0 x1 x2 x3 x4 x5 x6 x7 x8 y0 (fun z0 => K z0) := by
  kernel_rfl
theorem go_fident : Goes Try.prog 35 := goes_of Try.func35 (by kernel_rfl) (c := bodyOf Try.f35) (by kernel_rfl)
theorem eo_fident (s : Int → Int → List UInt8 → Int → Int → Int → Int → Int → List V → List V → Option (List V)) (hs : ∀ (x0 : Int) (x1 : Int) (x2 : List UInt8) (x3 : Int) (x4 : Int) (x5 : Int) (x6 : Int) (x7 : Int) (x8 : List V) (y0 : List V) (z0 : List V), s x0 x1 x2 x3 x4 x5 x6 x7 x8 y0 = some z0 → ViewRet Try.prog T 35 [.ptr 1 0 0, .agg [.v (.int .i64 x0) .no, .v (.int .i64 x1) .no, .v (.bytes x2) .no, .v (.int .i64 x3) .no, .v (.int .i64 x4) .no, .v (.int .i64 x5) .no, .v (.int .i64 x6) .no, .v (.int .i64 x7) .no, .v (.sl 48 x8) .no]] [⟨56, [.v (.sl 62 y0) (.own (.slot 0) 62)]⟩] [] [⟨56, [.v (.sl 62 z0) (.own (.slot 0) 62)]⟩]) : MEntOK Try.prog T ⟨35, e_fident s⟩ := by
  refine ⟨go_fident, fun R dst ds m K r h => ?_⟩
  simp only [e_fident] at h
  split at h
  · obtain ⟨Bs, a1, a2, a3, h⟩ := viewK_some h
    split at h
    · obtain ⟨z0, h1, h2⟩ := bnd1_some h
      rw [putAllK_eq] at h2
      exact ⟨_, _, h2, hs _ _ _ _ _ _ _ _ _ _ _ h1 _ _ m dst a1 a2 a3 ⟨aren_ptr _ rfl, aren_agg ⟨aren_v _, aren_v _, aren_v _, aren_v _, aren_v _, aren_v _, aren_v _, aren_v _, aren_v _, trivial⟩, trivial⟩⟩
    · cases h
  · cases h
theorem co_fident (N : Nat) : CxOK Try.prog (cx_fident N) :=
  cxOK_of2 (es := []) (me := [⟨60, e_fwide (s_fwide N)⟩]) (ms := []) T_ok trivial ⟨eo_fwide _ (p_fwide N), trivial⟩ trivial rfl (fun _ _ _ _ => rfl) (fun _ _ _ _ _ _ => rfl) rfl
theorem lo_fident (N : Nat) : LoopsOK (cx_fident N) Try.f35.ntmps (bodyOf Try.f35) :=
  loopsOK_of (k := 0) (by kernel_rfl) trivial
open Classical in
theorem p_fident (N : Nat) (x0 : Int) (x1 : Int) (x2 : List UInt8) (x3 : Int) (x4 : Int) (x5 : Int) (x6 : Int) (x7 : Int) (x8 : List V) (y0 : List V) (z0 : List V) (h : s_fident N x0 x1 x2 x3 x4 x5 x6 x7 x8 y0 = some z0) : ViewRet Try.prog T 35 [.ptr 1 0 0, .agg [.v (.int .i64 x0) .no, .v (.int .i64 x1) .no, .v (.bytes x2) .no, .v (.int .i64 x3) .no, .v (.int .i64 x4) .no, .v (.int .i64 x5) .no, .v (.int .i64 x6) .no, .v (.int .i64 x7) .no, .v (.sl 48 x8) .no]] [⟨56, [.v (.sl 62 y0) (.own (.slot 0) 62)]⟩] [] [⟨56, [.v (.sl 62 z0) (.own (.slot 0) 62)]⟩] := by
  refine view_of (Bs := [⟨56, [.v (.sl 62 y0) (.own (.slot 0) 62)]⟩]) (Bs' := [⟨56, [.v (.sl 62 z0) (.own (.slot 0) 62)]⟩]) (cx := cx_fident N) (by kernel_rfl) (co_fident N) Try.func35 (by kernel_rfl) (by kernel_rfl) (lo_fident N) rfl rfl rfl rfl (rf := r_fident (fun z'0 => some z'0)) (r := z0) ?_ ?_
  · exact (C_fident_ok N x0 x1 x2 x3 x4 x5 x6 x7 x8 y0 _).trans h
  · intro rs' m' hx
    unfold r_fident at hx
    split at hx
    · cases hx; exact ⟨rfl, rfl, _, rfl⟩
    · cases hx
noncomputable def e_fname {R : Type} (s : Int → Int → List UInt8 → Int → Int → Int → Int → Int → List V → List V → Option (List V)) (dst : Nat) (ds : List D) (m : Mem) (K : List D → Mem → Option R) : Option R :=
  match ds with
  | [.ptr (kv0 + 1) sv0 0, .agg [.v (.int .i64 x0) .no, .v (.int .i64 x1) .no, .v (.bytes x2) .no, .v (.int .i64 x3) .no, .v (.int .i64 x4) .no, .v (.int .i64 x5) .no, .v (.int .i64 x6) .no, .v (.int .i64 x7) .no, .v (.sl 48 x8) .no]] => viewK [(kv0, sv0)] m fun Bs => (match Bs with
    | [⟨56, [.v (.sl 62 y0) (.own (.slot 0) 62)]⟩] => bnd1 (s x0 x1 x2 x3 x4 x5 x6 x7 x8 y0) fun z0 => putAllK [(kv0, sv0)] [⟨56, [.v (.sl 62 z0) (.own (.slot 0) 62)]⟩] m fun m' => K [] m'
    | _ => none)
  | _ => none
noncomputable def r_fname {α : Type} (K : List V → Option α) (rs : List D) (m : Mem) : Option α :=
  match rs, m with
  | [], [_, [(0, ⟨56, [.v (.sl 62 z0) (.own (.slot 0) 62)]⟩)]] => K z0
  | _, _ => none
noncomputable def C_fname {R : Type} (N : Nat) (x0 : Int) (x1 : Int) (x2 : List UInt8) (x3 : Int) (x4 : Int) (x5 : Int) (x6 : Int) (x7 : Int) (x8 : List V) (y0 : List V) (K0 : List V → Option R) : Option R := bnd1 (s_clone N x2) fun l0 => bnd1 (s_fput N 132 l0 y0) fun l1 => K0 l1
noncomputable def s_fname (N : Nat) (x0 : Int) (x1 : Int) (x2 : List UInt8) (x3 : Int) (x4 : Int) (x5 : Int) (x6 : Int) (x7 : Int) (x8 : List V) (y0 : List V) : Option (List V) := C_fname N x0 x1 x2 x3 x4 x5 x6 x7 x8 y0 (fun z0 => some z0)
noncomputable def cx_fname (N : Nat) : Cx := { T := T, isPure := tabP [⟨61, e_clone (s_clone N)⟩], pureK := fun g ds K => tabK [⟨61, e_clone (s_clone N)⟩] g ds K, memK := fun g dst ds m K => tabMK [⟨59, e_fput (s_fput N)⟩] g dst ds m K, meth := tabM [], keep := fun _ => [], keepX := fun _ => [], loopT := fun _ _ _ _ => none, jumps := 9 }
theorem C_fname_ok {R : Type} (N : Nat) (x0 : Int) (x1 : Int) (x2 : List UInt8) (x3 : Int) (x4 : Int) (x5 : Int) (x6 : Int) (x7 : Int) (x8 : List V) (y0 : List V) (K : List V → Option R) : bodyK (cx_fname N) Try.f36 [.ptr 1 0 0, .agg [.v (.int .i64 x0) .no, .v (.int .i64 x1) .no, .v (.bytes x2) .no, .v (.int .i64 x3) .no, .v (.int .i64 x4) .no, .v (.int .i64 x5) .no, .v (.int .i64 x6) .no, .v (.int .i64 x7) .no, .v (.sl 48 x8) .no]] [frOf 0 [⟨56, [.v (.sl 62 y0) (.own (.slot 0) 62)]⟩]] (r_fname K) = C_fname N x0 x1 x2 x3 x4 x5 x6 x7 x8 y0 (fun z0 => K z0) := by
  kernel_rfl
theorem go_fname : Goes Try.prog 36 := goes_of Try.func36 (by kernel_rfl) (c := bodyOf Try.f36) (by kernel_rfl)
theorem eo_fname (s : Int → Int → List UInt8 → Int → Int → Int → Int → Int → List V → List V → Option (List V)) (hs : ∀ (x0 : Int) (x1 : Int) (x2 : List UInt8) (x3 : Int) (x4 : Int) (x5 : Int) (x6 : Int) (x7 : Int) (x8 : List V) (y0 : List V) (z0 : List V), s x0 x1 x2 x3 x4 x5 x6 x7 x8 y0 = some z0 → ViewRet Try.prog T 36 [.ptr 1 0 0, .agg [.v (.int .i64 x0) .no, .v (.int .i64 x1) .no, .v (.bytes x2) .no, .v (.int .i64 x3) .no, .v (.int .i64 x4) .no, .v (.int .i64 x5) .no, .v (.int .i64 x6) .no, .v (.int .i64 x7) .no, .v (.sl 48 x8) .no]] [⟨56, [.v (.sl 62 y0) (.own (.slot 0) 62)]⟩] [] [⟨56, [.v (.sl 62 z0) (.own (.slot 0) 62)]⟩]) : MEntOK Try.prog T ⟨36, e_fname s⟩ := by
  refine ⟨go_fname, fun R dst ds m K r h => ?_⟩
  simp only [e_fname] at h
  split at h
  · obtain ⟨Bs, a1, a2, a3, h⟩ := viewK_some h
    split at h
    · obtain ⟨z0, h1, h2⟩ := bnd1_some h
      rw [putAllK_eq] at h2
      exact ⟨_, _, h2, hs _ _ _ _ _ _ _ _ _ _ _ h1 _ _ m dst a1 a2 a3 ⟨aren_ptr _ rfl, aren_agg ⟨aren_v _, aren_v _, aren_v _, aren_v _, aren_v _, aren_v _, aren_v _, aren_v _, aren_v _, trivial⟩, trivial⟩⟩
    · cases h
  · cases h
theorem co_fname (N : Nat) : CxOK Try.prog (cx_fname N) :=
  cxOK_of2 (es := [⟨61, e_clone (s_clone N)⟩]) (me := [⟨59, e_fput (s_fput N)⟩]) (ms := []) T_ok ⟨eo_clone _ (p_clone N), trivial⟩ ⟨eo_fput _ (p_fput N), trivial⟩ trivial rfl (fun _ _ _ _ => rfl) (fun _ _ _ _ _ _ => rfl) rfl
theorem lo_fname (N : Nat) : LoopsOK (cx_fname N) Try.f36.ntmps (bodyOf Try.f36) :=
  loopsOK_of (k := 0) (by kernel_rfl) trivial
open Classical in
theorem p_fname (N : Nat) (x0 : Int) (x1 : Int) (x2 : List UInt8) (x3 : Int) (x4 : Int) (x5 : Int) (x6 : Int) (x7 : Int) (x8 : List V) (y0 : List V) (z0 : List V) (h : s_fname N x0 x1 x2 x3 x4 x5 x6 x7 x8 y0 = some z0) : ViewRet Try.prog T 36 [.ptr 1 0 0, .agg [.v (.int .i64 x0) .no, .v (.int .i64 x1) .no, .v (.bytes x2) .no, .v (.int .i64 x3) .no, .v (.int .i64 x4) .no, .v (.int .i64 x5) .no, .v (.int .i64 x6) .no, .v (.int .i64 x7) .no, .v (.sl 48 x8) .no]] [⟨56, [.v (.sl 62 y0) (.own (.slot 0) 62)]⟩] [] [⟨56, [.v (.sl 62 z0) (.own (.slot 0) 62)]⟩] := by
  refine view_of (Bs := [⟨56, [.v (.sl 62 y0) (.own (.slot 0) 62)]⟩]) (Bs' := [⟨56, [.v (.sl 62 z0) (.own (.slot 0) 62)]⟩]) (cx := cx_fname N) (by kernel_rfl) (co_fname N) Try.func36 (by kernel_rfl) (by kernel_rfl) (lo_fname N) rfl rfl rfl rfl (rf := r_fname (fun z'0 => some z'0)) (r := z0) ?_ ?_
  · exact (C_fname_ok N x0 x1 x2 x3 x4 x5 x6 x7 x8 y0 _).trans h
  · intro rs' m' hx
    unfold r_fname at hx
    split at hx
    · cases hx; exact ⟨rfl, rfl, _, rfl⟩
    · cases hx
noncomputable def e_fsize {R : Type} (s : Int → Int → List UInt8 → Int → Int → Int → Int → Int → List V → List V → Option (List V)) (dst : Nat) (ds : List D) (m : Mem) (K : List D → Mem → Option R) : Option R :=
  match ds with
  | [.ptr (kv0 + 1) sv0 0, .agg [.v (.int .i64 x0) .no, .v (.int .i64 x1) .no, .v (.bytes x2) .no, .v (.int .i64 x3) .no, .v (.int .i64 x4) .no, .v (.int .i64 x5) .no, .v (.int .i64 x6) .no, .v (.int .i64 x7) .no, .v (.sl 48 x8) .no]] => viewK [(kv0, sv0)] m fun Bs => (match Bs with
    | [⟨56, [.v (.sl 62 y0) (.own (.slot 0) 62)]⟩] => bnd1 (s x0 x1 x2 x3 x4 x5 x6 x7 x8 y0) fun z0 => putAllK [(kv0, sv0)] [⟨56, [.v (.sl 62 z0) (.own (.slot 0) 62)]⟩] m fun m' => K [] m'
    | _ => none)
  | _ => none
noncomputable def r_fsize {α : Type} (K : List V → Option α) (rs : List D) (m : Mem) : Option α :=
  match rs, m with
  | [], [_, [(0, ⟨56, [.v (.sl 62 z0) (.own (.slot 0) 62)]⟩)]] => K z0
  | _, _ => none
noncomputable def C_fsize {R : Type} (N : Nat) (x0 : Int) (x1 : Int) (x2 : List UInt8) (x3 : Int) (x4 : Int) (x5 : Int) (x6 : Int) (x7 : Int) (x8 : List V) (y0 : List V) (K0 : List V → Option R) : Option R := bnd1 (s_fwide N 128 x4 y0) fun l0 => K0 l0
noncomputable def s_fsize (N : Nat) (x0 : Int) (x1 : Int) (x2 : List UInt8) (x3 : Int) (x4 : Int) (x5 : Int) (x6 : Int) (x7 : Int) (x8 : List V) (y0 : List V) : Option (List V) := C_fsize N x0 x1 x2 x3 x4 x5 x6 x7 x8 y0 (fun z0 => some z0)
noncomputable def cx_fsize (N : Nat) : Cx := { T := T, isPure := tabP [], pureK := fun g ds K => tabK [] g ds K, memK := fun g dst ds m K => tabMK [⟨60, e_fwide (s_fwide N)⟩] g dst ds m K, meth := tabM [], keep := fun _ => [], keepX := fun _ => [], loopT := fun _ _ _ _ => none, jumps := 9 }
theorem C_fsize_ok {R : Type} (N : Nat) (x0 : Int) (x1 : Int) (x2 : List UInt8) (x3 : Int) (x4 : Int) (x5 : Int) (x6 : Int) (x7 : Int) (x8 : List V) (y0 : List V) (K : List V → Option R) : bodyK (cx_fsize N) Try.f37 [.ptr 1 0 0, .agg [.v (.int .i64 x0) .no, .v (.int .i64 x1) .no, .v (.bytes x2) .no, .v (.int .i64 x3) .no, .v (.int .i64 x4) .no, .v (.int .i64 x5) .no, .v (.int .i64 x6) .no, .v (.int .i64 x7) .no, .v (.sl 48 x8) .no]] [frOf 0 [⟨56, [.v (.sl 62 y0) (.own (.slot 0) 62)]⟩]] (r_fsize K) = C_fsize N x0 x1 x2 x3 x4 x5 x6 x7 x8 y0 (fun z0 => K z0) := by
  kernel_rfl
theorem go_fsize : Goes Try.prog 37 := goes_of Try.func37 (by kernel_rfl) (c := bodyOf Try.f37) (by kernel_rfl)
theorem eo_fsize (s : Int → Int → List UInt8 → Int → Int → Int → Int → Int → List V → List V → Option (List V)) (hs : ∀ (x0 : Int) (x1 : Int) (x2 : List UInt8) (x3 : Int) (x4 : Int) (x5 : Int) (x6 : Int) (x7 : Int) (x8 : List V) (y0 : List V) (z0 : List V), s x0 x1 x2 x3 x4 x5 x6 x7 x8 y0 = some z0 → ViewRet Try.prog T 37 [.ptr 1 0 0, .agg [.v (.int .i64 x0) .no, .v (.int .i64 x1) .no, .v (.bytes x2) .no, .v (.int .i64 x3) .no, .v (.int .i64 x4) .no, .v (.int .i64 x5) .no, .v (.int .i64 x6) .no, .v (.int .i64 x7) .no, .v (.sl 48 x8) .no]] [⟨56, [.v (.sl 62 y0) (.own (.slot 0) 62)]⟩] [] [⟨56, [.v (.sl 62 z0) (.own (.slot 0) 62)]⟩]) : MEntOK Try.prog T ⟨37, e_fsize s⟩ := by
  refine ⟨go_fsize, fun R dst ds m K r h => ?_⟩
  simp only [e_fsize] at h
  split at h
  · obtain ⟨Bs, a1, a2, a3, h⟩ := viewK_some h
    split at h
    · obtain ⟨z0, h1, h2⟩ := bnd1_some h
      rw [putAllK_eq] at h2
      exact ⟨_, _, h2, hs _ _ _ _ _ _ _ _ _ _ _ h1 _ _ m dst a1 a2 a3 ⟨aren_ptr _ rfl, aren_agg ⟨aren_v _, aren_v _, aren_v _, aren_v _, aren_v _, aren_v _, aren_v _, aren_v _, aren_v _, trivial⟩, trivial⟩⟩
    · cases h
  · cases h
theorem co_fsize (N : Nat) : CxOK Try.prog (cx_fsize N) :=
  cxOK_of2 (es := []) (me := [⟨60, e_fwide (s_fwide N)⟩]) (ms := []) T_ok trivial ⟨eo_fwide _ (p_fwide N), trivial⟩ trivial rfl (fun _ _ _ _ => rfl) (fun _ _ _ _ _ _ => rfl) rfl
theorem lo_fsize (N : Nat) : LoopsOK (cx_fsize N) Try.f37.ntmps (bodyOf Try.f37) :=
  loopsOK_of (k := 0) (by kernel_rfl) trivial
open Classical in
theorem p_fsize (N : Nat) (x0 : Int) (x1 : Int) (x2 : List UInt8) (x3 : Int) (x4 : Int) (x5 : Int) (x6 : Int) (x7 : Int) (x8 : List V) (y0 : List V) (z0 : List V) (h : s_fsize N x0 x1 x2 x3 x4 x5 x6 x7 x8 y0 = some z0) : ViewRet Try.prog T 37 [.ptr 1 0 0, .agg [.v (.int .i64 x0) .no, .v (.int .i64 x1) .no, .v (.bytes x2) .no, .v (.int .i64 x3) .no, .v (.int .i64 x4) .no, .v (.int .i64 x5) .no, .v (.int .i64 x6) .no, .v (.int .i64 x7) .no, .v (.sl 48 x8) .no]] [⟨56, [.v (.sl 62 y0) (.own (.slot 0) 62)]⟩] [] [⟨56, [.v (.sl 62 z0) (.own (.slot 0) 62)]⟩] := by
  refine view_of (Bs := [⟨56, [.v (.sl 62 y0) (.own (.slot 0) 62)]⟩]) (Bs' := [⟨56, [.v (.sl 62 z0) (.own (.slot 0) 62)]⟩]) (cx := cx_fsize N) (by kernel_rfl) (co_fsize N) Try.func37 (by kernel_rfl) (by kernel_rfl) (lo_fsize N) rfl rfl rfl rfl (rf := r_fsize (fun z'0 => some z'0)) (r := z0) ?_ ?_
  · exact (C_fsize_ok N x0 x1 x2 x3 x4 x5 x6 x7 x8 y0 _).trans h
  · intro rs' m' hx
    unfold r_fsize at hx
    split at hx
    · cases hx; exact ⟨rfl, rfl, _, rfl⟩
    · cases hx
noncomputable def e_fshort {R : Type} (s : Int → Int → List UInt8 → Int → Int → Int → Int → Int → List V → List V → Option (List V)) (dst : Nat) (ds : List D) (m : Mem) (K : List D → Mem → Option R) : Option R :=
  match ds with
  | [.ptr (kv0 + 1) sv0 0, .agg [.v (.int .i64 x0) .no, .v (.int .i64 x1) .no, .v (.bytes x2) .no, .v (.int .i64 x3) .no, .v (.int .i64 x4) .no, .v (.int .i64 x5) .no, .v (.int .i64 x6) .no, .v (.int .i64 x7) .no, .v (.sl 48 x8) .no]] => viewK [(kv0, sv0)] m fun Bs => (match Bs with
    | [⟨56, [.v (.sl 62 y0) (.own (.slot 0) 62)]⟩] => bnd1 (s x0 x1 x2 x3 x4 x5 x6 x7 x8 y0) fun z0 => putAllK [(kv0, sv0)] [⟨56, [.v (.sl 62 z0) (.own (.slot 0) 62)]⟩] m fun m' => K [] m'
    | _ => none)
  | _ => none
noncomputable def r_fshort {α : Type} (K : List V → Option α) (rs : List D) (m : Mem) : Option α :=
  match rs, m with
  | [], [_, [(0, ⟨56, [.v (.sl 62 z0) (.own (.slot 0) 62)]⟩)]] => K z0
  | _, _ => none
noncomputable def C_fshort {R : Type} (N : Nat) (x0 : Int) (x1 : Int) (x2 : List UInt8) (x3 : Int) (x4 : Int) (x5 : Int) (x6 : Int) (x7 : Int) (x8 : List V) (y0 : List V) (K0 : List V → Option R) : Option R := bnd1 (s_fput N 136 [UInt8.ofNat (IntKind.u8.wrap x3).toNat] y0) fun l0 => K0 l0
noncomputable def s_fshort (N : Nat) (x0 : Int) (x1 : Int) (x2 : List UInt8) (x3 : Int) (x4 : Int) (x5 : Int) (x6 : Int) (x7 : Int) (x8 : List V) (y0 : List V) : Option (List V) := C_fshort N x0 x1 x2 x3 x4 x5 x6 x7 x8 y0 (fun z0 => some z0)
noncomputable def cx_fshort (N : Nat) : Cx := { T := T, isPure := tabP [], pureK := fun g ds K => tabK [] g ds K, memK := fun g dst ds m K => tabMK [⟨59, e_fput (s_fput N)⟩] g dst ds m K, meth := tabM [], keep := fun _ => [], keepX := fun _ => [], loopT := fun _ _ _ _ => none, jumps := 9 }
theorem C_fshort_ok {R : Type} (N : Nat) (x0 : Int) (x1 : Int) (x2 : List UInt8) (x3 : Int) (x4 : Int) (x5 : Int) (x6 : Int) (x7 : Int) (x8 : List V) (y0 : List V) (K : List V → Option R) : bodyK (cx_fshort N) Try.f38 [.ptr 1 0 0, .agg [.v (.int .i64 x0) .no, .v (.int .i64 x1) .no, .v (.bytes x2) .no, .v (.int .i64 x3) .no, .v (.int .i64 x4) .no, .v (.int .i64 x5) .no, .v (.int .i64 x6) .no, .v (.int .i64 x7) .no, .v (.sl 48 x8) .no]] [frOf 0 [⟨56, [.v (.sl 62 y0) (.own (.slot 0) 62)]⟩]] (r_fshort K) = C_fshort N x0 x1 x2 x3 x4 x5 x6 x7 x8 y0 (fun z0 => K z0) := by
  kernel_rfl
theorem go_fshort : Goes Try.prog 38 := goes_of Try.func38 (by kernel_rfl) (c := bodyOf Try.f38) (by kernel_rfl)
theorem eo_fshort (s : Int → Int → List UInt8 → Int → Int → Int → Int → Int → List V → List V → Option (List V)) (hs : ∀ (x0 : Int) (x1 : Int) (x2 : List UInt8) (x3 : Int) (x4 : Int) (x5 : Int) (x6 : Int) (x7 : Int) (x8 : List V) (y0 : List V) (z0 : List V), s x0 x1 x2 x3 x4 x5 x6 x7 x8 y0 = some z0 → ViewRet Try.prog T 38 [.ptr 1 0 0, .agg [.v (.int .i64 x0) .no, .v (.int .i64 x1) .no, .v (.bytes x2) .no, .v (.int .i64 x3) .no, .v (.int .i64 x4) .no, .v (.int .i64 x5) .no, .v (.int .i64 x6) .no, .v (.int .i64 x7) .no, .v (.sl 48 x8) .no]] [⟨56, [.v (.sl 62 y0) (.own (.slot 0) 62)]⟩] [] [⟨56, [.v (.sl 62 z0) (.own (.slot 0) 62)]⟩]) : MEntOK Try.prog T ⟨38, e_fshort s⟩ := by
  refine ⟨go_fshort, fun R dst ds m K r h => ?_⟩
  simp only [e_fshort] at h
  split at h
  · obtain ⟨Bs, a1, a2, a3, h⟩ := viewK_some h
    split at h
    · obtain ⟨z0, h1, h2⟩ := bnd1_some h
      rw [putAllK_eq] at h2
      exact ⟨_, _, h2, hs _ _ _ _ _ _ _ _ _ _ _ h1 _ _ m dst a1 a2 a3 ⟨aren_ptr _ rfl, aren_agg ⟨aren_v _, aren_v _, aren_v _, aren_v _, aren_v _, aren_v _, aren_v _, aren_v _, aren_v _, trivial⟩, trivial⟩⟩
    · cases h
  · cases h
theorem co_fshort (N : Nat) : CxOK Try.prog (cx_fshort N) :=
  cxOK_of2 (es := []) (me := [⟨59, e_fput (s_fput N)⟩]) (ms := []) T_ok trivial ⟨eo_fput _ (p_fput N), trivial⟩ trivial rfl (fun _ _ _ _ => rfl) (fun _ _ _ _ _ _ => rfl) rfl
theorem lo_fshort (N : Nat) : LoopsOK (cx_fshort N) Try.f38.ntmps (bodyOf Try.f38) :=
  loopsOK_of (k := 0) (by kernel_rfl) trivial
open Classical in
theorem p_fshort (N : Nat) (x0 : Int) (x1 : Int) (x2 : List UInt8) (x3 : Int) (x4 : Int) (x5 : Int) (x6 : Int) (x7 : Int) (x8 : List V) (y0 : List V) (z0 : List V) (h : s_fshort N x0 x1 x2 x3 x4 x5 x6 x7 x8 y0 = some z0) : ViewRet Try.prog T 38 [.ptr 1 0 0, .agg [.v (.int .i64 x0) .no, .v (.int .i64 x1) .no, .v (.bytes x2) .no, .v (.int .i64 x3) .no, .v (.int .i64 x4) .no, .v (.int .i64 x5) .no, .v (.int .i64 x6) .no, .v (.int .i64 x7) .no, .v (.sl 48 x8) .no]] [⟨56, [.v (.sl 62 y0) (.own (.slot 0) 62)]⟩] [] [⟨56, [.v (.sl 62 z0) (.own (.slot 0) 62)]⟩] := by
  refine view_of (Bs := [⟨56, [.v (.sl 62 y0) (.own (.slot 0) 62)]⟩]) (Bs' := [⟨56, [.v (.sl 62 z0) (.own (.slot 0) 62)]⟩]) (cx := cx_fshort N) (by kernel_rfl) (co_fshort N) Try.func38 (by kernel_rfl) (by kernel_rfl) (lo_fshort N) rfl rfl rfl rfl (rf := r_fshort (fun z'0 => some z'0)) (r := z0) ?_ ?_
  · exact (C_fshort_ok N x0 x1 x2 x3 x4 x5 x6 x7 x8 y0 _).trans h
  · intro rs' m' hx
    unfold r_fshort at hx
    split at hx
    · cases hx; exact ⟨rfl, rfl, _, rfl⟩
    · cases hx
noncomputable def e_fstate {R : Type} (s : Int → Int → List UInt8 → Int → Int → Int → Int → Int → List V → List V → Option (List V)) (dst : Nat) (ds : List D) (m : Mem) (K : List D → Mem → Option R) : Option R :=
  match ds with
  | [.ptr (kv0 + 1) sv0 0, .agg [.v (.int .i64 x0) .no, .v (.int .i64 x1) .no, .v (.bytes x2) .no, .v (.int .i64 x3) .no, .v (.int .i64 x4) .no, .v (.int .i64 x5) .no, .v (.int .i64 x6) .no, .v (.int .i64 x7) .no, .v (.sl 48 x8) .no]] => viewK [(kv0, sv0)] m fun Bs => (match Bs with
    | [⟨56, [.v (.sl 62 y0) (.own (.slot 0) 62)]⟩] => bnd1 (s x0 x1 x2 x3 x4 x5 x6 x7 x8 y0) fun z0 => putAllK [(kv0, sv0)] [⟨56, [.v (.sl 62 z0) (.own (.slot 0) 62)]⟩] m fun m' => K [] m'
    | _ => none)
  | _ => none
noncomputable def r_fstate {α : Type} (K : List V → Option α) (rs : List D) (m : Mem) : Option α :=
  match rs, m with
  | [], [_, [(0, ⟨56, [.v (.sl 62 z0) (.own (.slot 0) 62)]⟩)]] => K z0
  | _, _ => none
noncomputable def C_fstate {R : Type} (N : Nat) (x0 : Int) (x1 : Int) (x2 : List UInt8) (x3 : Int) (x4 : Int) (x5 : Int) (x6 : Int) (x7 : Int) (x8 : List V) (y0 : List V) (K0 : List V → Option R) : Option R := bnd1 (s_fput N 138 [UInt8.ofNat (IntKind.u8.wrap x7).toNat] y0) fun l0 => K0 l0
noncomputable def s_fstate (N : Nat) (x0 : Int) (x1 : Int) (x2 : List UInt8) (x3 : Int) (x4 : Int) (x5 : Int) (x6 : Int) (x7 : Int) (x8 : List V) (y0 : List V) : Option (List V) := C_fstate N x0 x1 x2 x3 x4 x5 x6 x7 x8 y0 (fun z0 => some z0)
noncomputable def cx_fstate (N : Nat) : Cx := { T := T, isPure := tabP [], pureK := fun g ds K => tabK [] g ds K, memK := fun g dst ds m K => tabMK [⟨59, e_fput (s_fput N)⟩] g dst ds m K, meth := tabM [], keep := fun _ => [], keepX := fun _ => [], loopT := fun _ _ _ _ => none, jumps := 9 }
theorem C_fstate_ok {R : Type} (N : Nat) (x0 : Int) (x1 : Int) (x2 : List UInt8) (x3 : Int) (x4 : Int) (x5 : Int) (x6 : Int) (x7 : Int) (x8 : List V) (y0 : List V) (K : List V → Option R) : bodyK (cx_fstate N) Try.f39 [.ptr 1 0 0, .agg [.v (.int .i64 x0) .no, .v (.int .i64 x1) .no, .v (.bytes x2) .no, .v (.int .i64 x3) .no, .v (.int .i64 x4) .no, .v (.int .i64 x5) .no, .v (.int .i64 x6) .no, .v (.int .i64 x7) .no, .v (.sl 48 x8) .no]] [frOf 0 [⟨56, [.v (.sl 62 y0) (.own (.slot 0) 62)]⟩]] (r_fstate K) = C_fstate N x0 x1 x2 x3 x4 x5 x6 x7 x8 y0 (fun z0 => K z0) := by
  kernel_rfl
theorem go_fstate : Goes Try.prog 39 := goes_of Try.func39 (by kernel_rfl) (c := bodyOf Try.f39) (by kernel_rfl)
theorem eo_fstate (s : Int → Int → List UInt8 → Int → Int → Int → Int → Int → List V → List V → Option (List V)) (hs : ∀ (x0 : Int) (x1 : Int) (x2 : List UInt8) (x3 : Int) (x4 : Int) (x5 : Int) (x6 : Int) (x7 : Int) (x8 : List V) (y0 : List V) (z0 : List V), s x0 x1 x2 x3 x4 x5 x6 x7 x8 y0 = some z0 → ViewRet Try.prog T 39 [.ptr 1 0 0, .agg [.v (.int .i64 x0) .no, .v (.int .i64 x1) .no, .v (.bytes x2) .no, .v (.int .i64 x3) .no, .v (.int .i64 x4) .no, .v (.int .i64 x5) .no, .v (.int .i64 x6) .no, .v (.int .i64 x7) .no, .v (.sl 48 x8) .no]] [⟨56, [.v (.sl 62 y0) (.own (.slot 0) 62)]⟩] [] [⟨56, [.v (.sl 62 z0) (.own (.slot 0) 62)]⟩]) : MEntOK Try.prog T ⟨39, e_fstate s⟩ := by
  refine ⟨go_fstate, fun R dst ds m K r h => ?_⟩
  simp only [e_fstate] at h
  split at h
  · obtain ⟨Bs, a1, a2, a3, h⟩ := viewK_some h
    split at h
    · obtain ⟨z0, h1, h2⟩ := bnd1_some h
      rw [putAllK_eq] at h2
      exact ⟨_, _, h2, hs _ _ _ _ _ _ _ _ _ _ _ h1 _ _ m dst a1 a2 a3 ⟨aren_ptr _ rfl, aren_agg ⟨aren_v _, aren_v _, aren_v _, aren_v _, aren_v _, aren_v _, aren_v _, aren_v _, aren_v _, trivial⟩, trivial⟩⟩
    · cases h
  · cases h
theorem co_fstate (N : Nat) : CxOK Try.prog (cx_fstate N) :=
  cxOK_of2 (es := []) (me := [⟨59, e_fput (s_fput N)⟩]) (ms := []) T_ok trivial ⟨eo_fput _ (p_fput N), trivial⟩ trivial rfl (fun _ _ _ _ => rfl) (fun _ _ _ _ _ _ => rfl) rfl
theorem lo_fstate (N : Nat) : LoopsOK (cx_fstate N) Try.f39.ntmps (bodyOf Try.f39) :=
  loopsOK_of (k := 0) (by kernel_rfl) trivial
open Classical in
theorem p_fstate (N : Nat) (x0 : Int) (x1 : Int) (x2 : List UInt8) (x3 : Int) (x4 : Int) (x5 : Int) (x6 : Int) (x7 : Int) (x8 : List V) (y0 : List V) (z0 : List V) (h : s_fstate N x0 x1 x2 x3 x4 x5 x6 x7 x8 y0 = some z0) : ViewRet Try.prog T 39 [.ptr 1 0 0, .agg [.v (.int .i64 x0) .no, .v (.int .i64 x1) .no, .v (.bytes x2) .no, .v (.int .i64 x3) .no, .v (.int .i64 x4) .no, .v (.int .i64 x5) .no, .v (.int .i64 x6) .no, .v (.int .i64 x7) .no, .v (.sl 48 x8) .no]] [⟨56, [.v (.sl 62 y0) (.own (.slot 0) 62)]⟩] [] [⟨56, [.v (.sl 62 z0) (.own (.slot 0) 62)]⟩] := by
  refine view_of (Bs := [⟨56, [.v (.sl 62 y0) (.own (.slot 0) 62)]⟩]) (Bs' := [⟨56, [.v (.sl 62 z0) (.own (.slot 0) 62)]⟩]) (cx := cx_fstate N) (by kernel_rfl) (co_fstate N) Try.func39 (by kernel_rfl) (by kernel_rfl) (lo_fstate N) rfl rfl rfl rfl (rf := r_fstate (fun z'0 => some z'0)) (r := z0) ?_ ?_
  · exact (C_fstate_ok N x0 x1 x2 x3 x4 x5 x6 x7 x8 y0 _).trans h
  · intro rs' m' hx
    unfold r_fstate at hx
    split at hx
    · cases hx; exact ⟨rfl, rfl, _, rfl⟩
    · cases hx
noncomputable def e_frules {R : Type} (s : Int → Int → List UInt8 → Int → Int → Int → Int → Int → List V → List V → Option (List V)) (dst : Nat) (ds : List D) (m : Mem) (K : List D → Mem → Option R) : Option R :=
  match ds with
  | [.ptr (kv0 + 1) sv0 0, .agg [.v (.int .i64 x0) .no, .v (.int .i64 x1) .no, .v (.bytes x2) .no, .v (.int .i64 x3) .no, .v (.int .i64 x4) .no, .v (.int .i64 x5) .no, .v (.int .i64 x6) .no, .v (.int .i64 x7) .no, .v (.sl 48 x8) .no]] => viewK [(kv0, sv0)] m fun Bs => (match Bs with
    | [⟨56, [.v (.sl 62 y0) (.own (.slot 0) 62)]⟩] => bnd1 (s x0 x1 x2 x3 x4 x5 x6 x7 x8 y0) fun z0 => putAllK [(kv0, sv0)] [⟨56, [.v (.sl 62 z0) (.own (.slot 0) 62)]⟩] m fun m' => K [] m'
    | _ => none)
  | _ => none
noncomputable def r_frules {α : Type} (K : List V → Option α) (rs : List D) (m : Mem) : Option α :=
  match rs, m with
  | [], [_, [(0, ⟨56, [.v (.sl 62 z0) (.own (.slot 0) 62)]⟩)]] => K z0
  | _, _ => none
noncomputable def C_frules {R : Type} (N : Nat) (x0 : Int) (x1 : Int) (x2 : List UInt8) (x3 : Int) (x4 : Int) (x5 : Int) (x6 : Int) (x7 : Int) (x8 : List V) (y0 : List V) (K0 : List V → Option R) : Option R := bnd2 (s_aEncode N x8) fun l0 n1 => bnd1 (s_fput N 134 l0 y0) fun l2 => K0 l2
noncomputable def s_frules (N : Nat) (x0 : Int) (x1 : Int) (x2 : List UInt8) (x3 : Int) (x4 : Int) (x5 : Int) (x6 : Int) (x7 : Int) (x8 : List V) (y0 : List V) : Option (List V) := C_frules N x0 x1 x2 x3 x4 x5 x6 x7 x8 y0 (fun z0 => some z0)
noncomputable def cx_frules (N : Nat) : Cx := { T := T, isPure := tabP [⟨62, e_aEncode (s_aEncode N)⟩], pureK := fun g ds K => tabK [⟨62, e_aEncode (s_aEncode N)⟩] g ds K, memK := fun g dst ds m K => tabMK [⟨59, e_fput (s_fput N)⟩] g dst ds m K, meth := tabM [], keep := fun _ => [], keepX := fun _ => [], loopT := fun _ _ _ _ => none, jumps := 9 }
theorem C_frules_ok {R : Type} (N : Nat) (x0 : Int) (x1 : Int) (x2 : List UInt8) (x3 : Int) (x4 : Int) (x5 : Int) (x6 : Int) (x7 : Int) (x8 : List V) (y0 : List V) (K : List V → Option R) : bodyK (cx_frules N) Try.f40 [.ptr 1 0 0, .agg [.v (.int .i64 x0) .no, .v (.int .i64 x1) .no, .v (.bytes x2) .no, .v (.int .i64 x3) .no, .v (.int .i64 x4) .no, .v (.int .i64 x5) .no, .v (.int .i64 x6) .no, .v (.int .i64 x7) .no, .v (.sl 48 x8) .no]] [frOf 0 [⟨56, [.v (.sl 62 y0) (.own (.slot 0) 62)]⟩]] (r_frules K) = C_frules N x0 x1 x2 x3 x4 x5 x6 x7 x8 y0 (fun z0 => K z0) := by
  kernel_rfl
theorem go_frules : Goes Try.prog 40 := goes_of Try.func40 (by kernel_rfl) (c := bodyOf Try.f40) (by kernel_rfl)
theorem eo_frules (s : Int → Int → List UInt8 → Int → Int → Int → Int → Int → List V → List V → Option (List V)) (hs : ∀ (x0 : Int) (x1 : Int) (x2 : List UInt8) (x3 : Int) (x4 : Int) (x5 : Int) (x6 : Int) (x7 : Int) (x8 : List V) (y0 : List V) (z0 : List V), s x0 x1 x2 x3 x4 x5 x6 x7 x8 y0 = some z0 → ViewRet Try.prog T 40 [.ptr 1 0 0, .agg [.v (.int .i64 x0) .no, .v (.int .i64 x1) .no, .v (.bytes x2) .no, .v (.int .i64 x3) .no, .v (.int .i64 x4) .no, .v (.int .i64 x5) .no, .v (.int .i64 x6) .no, .v (.int .i64 x7) .no, .v (.sl 48 x8) .no]] [⟨56, [.v (.sl 62 y0) (.own (.slot 0) 62)]⟩] [] [⟨56, [.v (.sl 62 z0) (.own (.slot 0) 62)]⟩]) : MEntOK Try.prog T ⟨40, e_frules s⟩ := by
  refine ⟨go_frules, fun R dst ds m K r h => ?_⟩
  simp only [e_frules] at h
  split at h
  · obtain ⟨Bs, a1, a2, a3, h⟩ := viewK_some h
    split at h
    · obtain ⟨z0, h1, h2⟩ := bnd1_some h
      rw [putAllK_eq] at h2
      exact ⟨_, _, h2, hs _ _ _ _ _ _ _ _ _ _ _ h1 _ _ m dst a1 a2 a3 ⟨aren_ptr _ rfl, aren_agg ⟨aren_v _, aren_v _, aren_v _, aren_v _, aren_v _, aren_v _, aren_v _, aren_v _, aren_v _, trivial⟩, trivial⟩⟩
    · cases h
  · cases h
theorem co_frules (N : Nat) : CxOK Try.prog (cx_frules N) :=
  cxOK_of2 (es := [⟨62, e_aEncode (s_aEncode N)⟩]) (me := [⟨59, e_fput (s_fput N)⟩]) (ms := []) T_ok ⟨eo_aEncode _ (p_aEncode N), trivial⟩ ⟨eo_fput _ (p_fput N), trivial⟩ trivial rfl (fun _ _ _ _ => rfl) (fun _ _ _ _ _ _ => rfl) rfl
theorem lo_frules (N : Nat) : LoopsOK (cx_frules N) Try.f40.ntmps (bodyOf Try.f40) :=
  loopsOK_of (k := 0) (by kernel_rfl) trivial
open Classical in
theorem p_frules (N : Nat) (x0 : Int) (x1 : Int) (x2 : List UInt8) (x3 : Int) (x4 : Int) (x5 : Int) (x6 : Int) (x7 : Int) (x8 : List V) (y0 : List V) (z0 : List V) (h : s_frules N x0 x1 x2 x3 x4 x5 x6 x7 x8 y0 = some z0) : ViewRet Try.prog T 40 [.ptr 1 0 0, .agg [.v (.int .i64 x0) .no, .v (.int .i64 x1) .no, .v (.bytes x2) .no, .v (.int .i64 x3) .no, .v (.int .i64 x4) .no, .v (.int .i64 x5) .no, .v (.int .i64 x6) .no, .v (.int .i64 x7) .no, .v (.sl 48 x8) .no]] [⟨56, [.v (.sl 62 y0) (.own (.slot 0) 62)]⟩] [] [⟨56, [.v (.sl 62 z0) (.own (.slot 0) 62)]⟩] := by
  refine view_of (Bs := [⟨56, [.v (.sl 62 y0) (.own (.slot 0) 62)]⟩]) (Bs' := [⟨56, [.v (.sl 62 z0) (.own (.slot 0) 62)]⟩]) (cx := cx_frules N) (by kernel_rfl) (co_frules N) Try.func40 (by kernel_rfl) (by kernel_rfl) (lo_frules N) rfl rfl rfl rfl (rf := r_frules (fun z'0 => some z'0)) (r := z0) ?_ ?_
  · exact (C_frules_ok N x0 x1 x2 x3 x4 x5 x6 x7 x8 y0 _).trans h
  · intro rs' m' hx
    unfold r_frules at hx
    split at hx
    · cases hx; exact ⟨rfl, rfl, _, rfl⟩
    · cases hx
noncomputable def e_partKinds {R : Type} (s : Int → Int → List UInt8 → Int → Int → Int → Int → Int → List V → Bool → List V → Option (List V)) (dst : Nat) (ds : List D) (m : Mem) (K : List D → Mem → Option R) : Option R :=
  match ds with
  | [.ptr (kv0 + 1) sv0 0, .agg [.v (.int .i64 x0) .no, .v (.int .i64 x1) .no, .v (.bytes x2) .no, .v (.int .i64 x3) .no, .v (.int .i64 x4) .no, .v (.int .i64 x5) .no, .v (.int .i64 x6) .no, .v (.int .i64 x7) .no, .v (.sl 48 x8) .no], .v (.bool x9) .no, .clos 34 []] => viewK [(kv0, sv0)] m fun Bs => (match Bs with
    | [⟨56, [.v (.sl 62 y0) (.own (.slot 0) 62)]⟩] => bnd1 (s x0 x1 x2 x3 x4 x5 x6 x7 x8 x9 y0) fun z0 => putAllK [(kv0, sv0)] [⟨56, [.v (.sl 62 z0) (.own (.slot 0) 62)]⟩] m fun m' => K [] m'
    | _ => none)
  | _ => none
noncomputable def r_partKinds {α : Type} (K : List V → Option α) (rs : List D) (m : Mem) : Option α :=
  match rs, m with
  | [], [_, [(0, ⟨56, [.v (.sl 62 z0) (.own (.slot 0) 62)]⟩)]] => K z0
  | _, _ => none
noncomputable def C_partKinds {R : Type} (N : Nat) (x0 : Int) (x1 : Int) (x2 : List UInt8) (x3 : Int) (x4 : Int) (x5 : Int) (x6 : Int) (x7 : Int) (x8 : List V) (x9 : Bool) (y0 : List V) (K0 : List V → Option R) : Option R := br x9 (bnd1 (s_fkinds N x0 x1 x2 x3 x4 x5 x6 x7 x8 y0) fun l0 => K0 l0) (K0 y0)
noncomputable def s_partKinds (N : Nat) (x0 : Int) (x1 : Int) (x2 : List UInt8) (x3 : Int) (x4 : Int) (x5 : Int) (x6 : Int) (x7 : Int) (x8 : List V) (x9 : Bool) (y0 : List V) : Option (List V) := C_partKinds N x0 x1 x2 x3 x4 x5 x6 x7 x8 x9 y0 (fun z0 => some z0)
noncomputable def cx_partKinds (N : Nat) : Cx := { T := T, isPure := tabP [], pureK := fun g ds K => tabK [] g ds K, memK := fun g dst ds m K => tabMK [⟨34, e_fkinds (s_fkinds N)⟩] g dst ds m K, meth := tabM [], keep := fun _ => [], keepX := fun _ => [], loopT := fun _ _ _ _ => none, jumps := 9 }
theorem C_partKinds_ok {R : Type} (N : Nat) (x0 : Int) (x1 : Int) (x2 : List UInt8) (x3 : Int) (x4 : Int) (x5 : Int) (x6 : Int) (x7 : Int) (x8 : List V) (x9 : Bool) (y0 : List V) (K : List V → Option R) : bodyK (cx_partKinds N) Try.f33 [.ptr 1 0 0, .agg [.v (.int .i64 x0) .no, .v (.int .i64 x1) .no, .v (.bytes x2) .no, .v (.int .i64 x3) .no, .v (.int .i64 x4) .no, .v (.int .i64 x5) .no, .v (.int .i64 x6) .no, .v (.int .i64 x7) .no, .v (.sl 48 x8) .no], .v (.bool x9) .no, .clos 34 []] [frOf 0 [⟨56, [.v (.sl 62 y0) (.own (.slot 0) 62)]⟩]] (r_partKinds K) = C_partKinds N x0 x1 x2 x3 x4 x5 x6 x7 x8 x9 y0 (fun z0 => K z0) := by
  kernel_rfl
theorem go_partKinds : Goes Try.prog 33 := goes_of Try.func33 (by kernel_rfl) (c := bodyOf Try.f33) (by kernel_rfl)
theorem eo_partKinds (s : Int → Int → List UInt8 → Int → Int → Int → Int → Int → List V → Bool → List V → Option (List V)) (hs : ∀ (x0 : Int) (x1 : Int) (x2 : List UInt8) (x3 : Int) (x4 : Int) (x5 : Int) (x6 : Int) (x7 : Int) (x8 : List V) (x9 : Bool) (y0 : List V) (z0 : List V), s x0 x1 x2 x3 x4 x5 x6 x7 x8 x9 y0 = some z0 → ViewRet Try.prog T 33 [.ptr 1 0 0, .agg [.v (.int .i64 x0) .no, .v (.int .i64 x1) .no, .v (.bytes x2) .no, .v (.int .i64 x3) .no, .v (.int .i64 x4) .no, .v (.int .i64 x5) .no, .v (.int .i64 x6) .no, .v (.int .i64 x7) .no, .v (.sl 48 x8) .no], .v (.bool x9) .no, .clos 34 []] [⟨56, [.v (.sl 62 y0) (.own (.slot 0) 62)]⟩] [] [⟨56, [.v (.sl 62 z0) (.own (.slot 0) 62)]⟩]) : MEntOK Try.prog T ⟨33, e_partKinds s⟩ := by
  refine ⟨go_partKinds, fun R dst ds m K r h => ?_⟩
  simp only [e_partKinds] at h
  split at h
  · obtain ⟨Bs, a1, a2, a3, h⟩ := viewK_some h
    split at h
    · obtain ⟨z0, h1, h2⟩ := bnd1_some h
      rw [putAllK_eq] at h2
      exact ⟨_, _, h2, hs _ _ _ _ _ _ _ _ _ _ _ _ h1 _ _ m dst a1 a2 a3 ⟨aren_ptr _ rfl, aren_agg ⟨aren_v _, aren_v _, aren_v _, aren_v _, aren_v _, aren_v _, aren_v _, aren_v _, aren_v _, trivial⟩, aren_v _, aren_clos trivial, trivial⟩⟩
    · cases h
  · cases h
theorem co_partKinds (N : Nat) : CxOK Try.prog (cx_partKinds N) :=
  cxOK_of2 (es := []) (me := [⟨34, e_fkinds (s_fkinds N)⟩]) (ms := []) T_ok trivial ⟨eo_fkinds _ (p_fkinds N), trivial⟩ trivial rfl (fun _ _ _ _ => rfl) (fun _ _ _ _ _ _ => rfl) rfl
theorem lo_partKinds (N : Nat) : LoopsOK (cx_partKinds N) Try.f33.ntmps (bodyOf Try.f33) :=
  loopsOK_of (k := 0) (by kernel_rfl) trivial
open Classical in
theorem p_partKinds (N : Nat) (x0 : Int) (x1 : Int) (x2 : List UInt8) (x3 : Int) (x4 : Int) (x5 : Int) (x6 : Int) (x7 : Int) (x8 : List V) (x9 : Bool) (y0 : List V) (z0 : List V) (h : s_partKinds N x0 x1 x2 x3 x4 x5 x6 x7 x8 x9 y0 = some z0) : ViewRet Try.prog T 33 [.ptr 1 0 0, .agg [.v (.int .i64 x0) .no, .v (.int .i64 x1) .no, .v (.bytes x2) .no, .v (.int .i64 x3) .no, .v (.int .i64 x4) .no, .v (.int .i64 x5) .no, .v (.int .i64 x6) .no, .v (.int .i64 x7) .no, .v (.sl 48 x8) .no], .v (.bool x9) .no, .clos 34 []] [⟨56, [.v (.sl 62 y0) (.own (.slot 0) 62)]⟩] [] [⟨56, [.v (.sl 62 z0) (.own (.slot 0) 62)]⟩] := by
  refine view_of (Bs := [⟨56, [.v (.sl 62 y0) (.own (.slot 0) 62)]⟩]) (Bs' := [⟨56, [.v (.sl 62 z0) (.own (.slot 0) 62)]⟩]) (cx := cx_partKinds N) (by kernel_rfl) (co_partKinds N) Try.func33 (by kernel_rfl) (by kernel_rfl) (lo_partKinds N) rfl rfl rfl rfl (rf := r_partKinds (fun z'0 => some z'0)) (r := z0) ?_ ?_
  · exact (C_partKinds_ok N x0 x1 x2 x3 x4 x5 x6 x7 x8 x9 y0 _).trans h
  · intro rs' m' hx
    unfold r_partKinds at hx
    split at hx
    · cases hx; exact ⟨rfl, rfl, _, rfl⟩
    · cases hx
noncomputable def e_partIdent {R : Type} (s : Int → Int → List UInt8 → Int → Int → Int → Int → Int → List V → Bool → List V → Option (List V)) (dst : Nat) (ds : List D) (m : Mem) (K : List D → Mem → Option R) : Option R :=
  match ds with
  | [.ptr (kv0 + 1) sv0 0, .agg [.v (.int .i64 x0) .no, .v (.int .i64 x1) .no, .v (.bytes x2) .no, .v (.int .i64 x3) .no, .v (.int .i64 x4) .no, .v (.int .i64 x5) .no, .v (.int .i64 x6) .no, .v (.int .i64 x7) .no, .v (.sl 48 x8) .no], .v (.bool x9) .no, .clos 35 []] => viewK [(kv0, sv0)] m fun Bs => (match Bs with
    | [⟨56, [.v (.sl 62 y0) (.own (.slot 0) 62)]⟩] => bnd1 (s x0 x1 x2 x3 x4 x5 x6 x7 x8 x9 y0) fun z0 => putAllK [(kv0, sv0)] [⟨56, [.v (.sl 62 z0) (.own (.slot 0) 62)]⟩] m fun m' => K [] m'
    | _ => none)
  | _ => none
noncomputable def r_partIdent {α : Type} (K : List V → Option α) (rs : List D) (m : Mem) : Option α :=
  match rs, m with
  | [], [_, [(0, ⟨56, [.v (.sl 62 z0) (.own (.slot 0) 62)]⟩)]] => K z0
  | _, _ => none
noncomputable def C_partIdent {R : Type} (N : Nat) (x0 : Int) (x1 : Int) (x2 : List UInt8) (x3 : Int) (x4 : Int) (x5 : Int) (x6 : Int) (x7 : Int) (x8 : List V) (x9 : Bool) (y0 : List V) (K0 : List V → Option R) : Option R := br x9 (bnd1 (s_fident N x0 x1 x2 x3 x4 x5 x6 x7 x8 y0) fun l0 => K0 l0) (K0 y0)
noncomputable def s_partIdent (N : Nat) (x0 : Int) (x1 : Int) (x2 : List UInt8) (x3 : Int) (x4 : Int) (x5 : Int) (x6 : Int) (x7 : Int) (x8 : List V) (x9 : Bool) (y0 : List V) : Option (List V) := C_partIdent N x0 x1 x2 x3 x4 x5 x6 x7 x8 x9 y0 (fun z0 => some z0)
noncomputable def cx_partIdent (N : Nat) : Cx := { T := T, isPure := tabP [], pureK := fun g ds K => tabK [] g ds K, memK := fun g dst ds m K => tabMK [⟨35, e_fident (s_fident N)⟩] g dst ds m K, meth := tabM [], keep := fun _ => [], keepX := fun _ => [], loopT := fun _ _ _ _ => none, jumps := 9 }
theorem C_partIdent_ok {R : Type} (N : Nat) (x0 : Int) (x1 : Int) (x2 : List UInt8) (x3 : Int) (x4 : Int) (x5 : Int) (x6 : Int) (x7 : Int) (x8 : List V) (x9 : Bool) (y0 : List V) (K : List V → Option R) : bodyK (cx_partIdent N) Try.f33 [.ptr 1 0 0, .agg [.v (.int .i64 x0) .no, .v (.int .i64 x1) .no, .v (.bytes x2) .no, .v (.int .i64 x3) .no, .v (.int .i64 x4) .no, .v (.int .i64 x5) .no, .v (.int .i64 x6) .no, .v (.int .i64 x7) .no, .v (.sl 48 x8) .no], .v (.bool x9) .no, .clos 35 []] [frOf 0 [⟨56, [.v (.sl 62 y0) (.own (.slot 0) 62)]⟩]] (r_partIdent K) = C_partIdent N x0 x1 x2 x3 x4 x5 x6 x7 x8 x9 y0 (fun z0 => K z0) := by
  kernel_rfl
theorem go_partIdent : Goes Try.prog 33 := goes_of Try.func33 (by kernel_rfl) (c := bodyOf Try.f33) (by kernel_rfl)
theorem eo_partIdent (s : Int → Int → List UInt8 → Int → Int → Int → Int → Int → List V → Bool → List V → Option (List V)) (hs : ∀ (x0 : Int) (x1 : Int) (x2 : List UInt8) (x3 : Int) (x4 : Int) (x5 : Int) (x6 : Int) (x7 : Int) (x8 : List V) (x9 : Bool) (y0 : List V) (z0 : List V), s x0 x1 x2 x3 x4 x5 x6 x7 x8 x9 y0 = some z0 → ViewRet Try.prog T 33 [.ptr 1 0 0, .agg [.v (.int .i64 x0) .no, .v (.int .i64 x1) .no, .v (.bytes x2) .no, .v (.int .i64 x3) .no, .v (.int .i64 x4) .no, .v (.int .i64 x5) .no, .v (.int .i64 x6) .no, .v (.int .i64 x7) .no, .v (.sl 48 x8) .no], .v (.bool x9) .no, .clos 35 []] [⟨56, [.v (.sl 62 y0) (.own (.slot 0) 62)]⟩] [] [⟨56, [.v (.sl 62 z0) (.own (.slot 0) 62)]⟩]) : MEntOK Try.prog T ⟨33, e_partIdent s⟩ := by
  refine ⟨go_partIdent, fun R dst ds m K r h => ?_⟩
  simp only [e_partIdent] at h
  split at h
  · obtain ⟨Bs, a1, a2, a3, h⟩ := viewK_some h
    split at h
    · obtain ⟨z0, h1, h2⟩ := bnd1_some h
      rw [putAllK_eq] at h2
      exact ⟨_, _, h2, hs _ _ _ _ _ _ _ _ _ _ _ _ h1 _ _ m dst a1 a2 a3 ⟨aren_ptr _ rfl, aren_agg ⟨aren_v _, aren_v _, aren_v _, aren_v _, aren_v _, aren_v _, aren_v _, aren_v _, aren_v _, trivial⟩, aren_v _, aren_clos trivial, trivial⟩⟩
    · cases h
  · cases h
theorem co_partIdent (N : Nat) : CxOK Try.prog (cx_partIdent N) :=
  cxOK_of2 (es := []) (me := [⟨35, e_fident (s_fident N)⟩]) (ms := []) T_ok trivial ⟨eo_fident _ (p_fident N), trivial⟩ trivial rfl (fun _ _ _ _ => rfl) (fun _ _ _ _ _ _ => rfl) rfl
theorem lo_partIdent (N : Nat) : LoopsOK (cx_partIdent N) Try.f33.ntmps (bodyOf Try.f33) :=
  loopsOK_of (k := 0) (by kernel_rfl) trivial
open Classical in
theorem p_partIdent (N : Nat) (x0 : Int) (x1 : Int) (x2 : List UInt8) (x3 : Int) (x4 : Int) (x5 : Int) (x6 : Int) (x7 : Int) (x8 : List V) (x9 : Bool) (y0 : List V) (z0 : List V) (h : s_partIdent N x0 x1 x2 x3 x4 x5 x6 x7 x8 x9 y0 = some z0) : ViewRet Try.prog T 33 [.ptr 1 0 0, .agg [.v (.int .i64 x0) .no, .v (.int .i64 x1) .no, .v (.bytes x2) .no, .v (.int .i64 x3) .no, .v (.int .i64 x4) .no, .v (.int .i64 x5) .no, .v (.int .i64 x6) .no, .v (.int .i64 x7) .no, .v (.sl 48 x8) .no], .v (.bool x9) .no, .clos 35 []] [⟨56, [.v (.sl 62 y0) (.own (.slot 0) 62)]⟩] [] [⟨56, [.v (.sl 62 z0) (.own (.slot 0) 62)]⟩] := by
  refine view_of (Bs := [⟨56, [.v (.sl 62 y0) (.own (.slot 0) 62)]⟩]) (Bs' := [⟨56, [.v (.sl 62 z0) (.own (.slot 0) 62)]⟩]) (cx := cx_partIdent N) (by kernel_rfl) (co_partIdent N) Try.func33 (by kernel_rfl) (by kernel_rfl) (lo_partIdent N) rfl rfl rfl rfl (rf := r_partIdent (fun z'0 => some z'0)) (r := z0) ?_ ?_
  · exact (C_partIdent_ok N x0 x1 x2 x3 x4 x5 x6 x7 x8 x9 y0 _).trans h
  · intro rs' m' hx
    unfold r_partIdent at hx
    split at hx
    · cases hx; exact ⟨rfl, rfl, _, rfl⟩
    · cases hx
noncomputable def e_partName {R : Type} (s : Int → Int → List UInt8 → Int → Int → Int → Int → Int → List V → Bool → List V → Option (List V)) (dst : Nat) (ds : List D) (m : Mem) (K : List D → Mem → Option R) : Option R :=
  match ds with
  | [.ptr (kv0 + 1) sv0 0, .agg [.v (.int .i64 x0) .no, .v (.int .i64 x1) .no, .v (.bytes x2) .no, .v (.int .i64 x3) .no, .v (.int .i64 x4) .no, .v (.int .i64 x5) .no, .v (.int .i64 x6) .no, .v (.int .i64 x7) .no, .v (.sl 48 x8) .no], .v (.bool x9) .no, .clos 36 []] => viewK [(kv0, sv0)] m fun Bs => (match Bs with
    | [⟨56, [.v (.sl 62 y0) (.own (.slot 0) 62)]⟩] => bnd1 (s x0 x1 x2 x3 x4 x5 x6 x7 x8 x9 y0) fun z0 => putAllK [(kv0, sv0)] [⟨56, [.v (.sl 62 z0) (.own (.slot 0) 62)]⟩] m fun m' => K [] m'
    | _ => none)
  | _ => none
noncomputable def r_partName {α : Type} (K : List V → Option α) (rs : List D) (m : Mem) : Option α :=
  match rs, m with
  | [], [_, [(0, ⟨56, [.v (.sl 62 z0) (.own (.slot 0) 62)]⟩)]] => K z0
  | _, _ => none
noncomputable def C_partName {R : Type} (N : Nat) (x0 : Int) (x1 : Int) (x2 : List UInt8) (x3 : Int) (x4 : Int) (x5 : Int) (x6 : Int) (x7 : Int) (x8 : List V) (x9 : Bool) (y0 : List V) (K0 : List V → Option R) : Option R := br x9 (bnd1 (s_fname N x0 x1 x2 x3 x4 x5 x6 x7 x8 y0) fun l0 => K0 l0) (K0 y0)
noncomputable def s_partName (N : Nat) (x0 : Int) (x1 : Int) (x2 : List UInt8) (x3 : Int) (x4 : Int) (x5 : Int) (x6 : Int) (x7 : Int) (x8 : List V) (x9 : Bool) (y0 : List V) : Option (List V) := C_partName N x0 x1 x2 x3 x4 x5 x6 x7 x8 x9 y0 (fun z0 => some z0)
noncomputable def cx_partName (N : Nat) : Cx := { T := T, isPure := tabP [], pureK := fun g ds K => tabK [] g ds K, memK := fun g dst ds m K => tabMK [⟨36, e_fname (s_fname N)⟩] g dst ds m K, meth := tabM [], keep := fun _ => [], keepX := fun _ => [], loopT := fun _ _ _ _ => none, jumps := 9 }
theorem C_partName_ok {R : Type} (N : Nat) (x0 : Int) (x1 : Int) (x2 : List UInt8) (x3 : Int) (x4 : Int) (x5 : Int) (x6 : Int) (x7 : Int) (x8 : List V) (x9 : Bool) (y0 : List V) (K : List V → Option R) : bodyK (cx_partName N) Try.f33 [.ptr 1 0 0, .agg [.v (.int .i64 x0) .no, .v (.int .i64 x1) .no, .v (.bytes x2) .no, .v (.int .i64 x3) .no, .v (.int .i64 x4) .no, .v (.int .i64 x5) .no, .v (.int .i64 x6) .no, .v (.int .i64 x7) .no, .v (.sl 48 x8) .no], .v (.bool x9) .no, .clos 36 []] [frOf 0 [⟨56, [.v (.sl 62 y0) (.own (.slot 0) 62)]⟩]] (r_partName K) = C_partName N x0 x1 x2 x3 x4 x5 x6 x7 x8 x9 y0 (fun z0 => K z0) := by
  kernel_rfl
theorem go_partName : Goes Try.prog 33 := goes_of Try.func33 (by kernel_rfl) (c := bodyOf Try.f33) (by kernel_rfl)
theorem eo_partName (s : Int → Int → List UInt8 → Int → Int → Int → Int → Int → List V → Bool → List V → Option (List V)) (hs : ∀ (x0 : Int) (x1 : Int) (x2 : List UInt8) (x3 : Int) (x4 : Int) (x5 : Int) (x6 : Int) (x7 : Int) (x8 : List V) (x9 : Bool) (y0 : List V) (z0 : List V), s x0 x1 x2 x3 x4 x5 x6 x7 x8 x9 y0 = some z0 → ViewRet Try.prog T 33 [.ptr 1 0 0, .agg [.v (.int .i64 x0) .no, .v (.int .i64 x1) .no, .v (.bytes x2) .no, .v (.int .i64 x3) .no, .v (.int .i64 x4) .no, .v (.int .i64 x5) .no, .v (.int .i64 x6) .no, .v (.int .i64 x7) .no, .v (.sl 48 x8) .no], .v (.bool x9) .no, .clos 36 []] [⟨56, [.v (.sl 62 y0) (.own (.slot 0) 62)]⟩] [] [⟨56, [.v (.sl 62 z0) (.own (.slot 0) 62)]⟩]) : MEntOK Try.prog T ⟨33, e_partName s⟩ := by
  refine ⟨go_partName, fun R dst ds m K r h => ?_⟩
  simp only [e_partName] at h
  split at h
  · obtain ⟨Bs, a1, a2, a3, h⟩ := viewK_some h
    split at h
    · obtain ⟨z0, h1, h2⟩ := bnd1_some h
      rw [putAllK_eq] at h2
      exact ⟨_, _, h2, hs _ _ _ _ _ _ _ _ _ _ _ _ h1 _ _ m dst a1 a2 a3 ⟨aren_ptr _ rfl, aren_agg ⟨aren_v _, aren_v _, aren_v _, aren_v _, aren_v _, aren_v _, aren_v _, aren_v _, aren_v _, trivial⟩, aren_v _, aren_clos trivial, trivial⟩⟩
    · cases h
  · cases h
theorem co_partName (N : Nat) : CxOK Try.prog (cx_partName N) :=
  cxOK_of2 (es := []) (me := [⟨36, e_fname (s_fname N)⟩]) (ms := []) T_ok trivial ⟨eo_fname _ (p_fname N), trivial⟩ trivial rfl (fun _ _ _ _ => rfl) (fun _ _ _ _ _ _ => rfl) rfl
theorem lo_partName (N : Nat) : LoopsOK (cx_partName N) Try.f33.ntmps (bodyOf Try.f33) :=
  loopsOK_of (k := 0) (by kernel_rfl) trivial
open Classical in
theorem p_partName (N : Nat) (x0 : Int) (x1 : Int) (x2 : List UInt8) (x3 : Int) (x4 : Int) (x5 : Int) (x6 : Int) (x7 : Int) (x8 : List V) (x9 : Bool) (y0 : List V) (z0 : List V) (h : s_partName N x0 x1 x2 x3 x4 x5 x6 x7 x8 x9 y0 = some z0) : ViewRet Try.prog T 33 [.ptr 1 0 0, .agg [.v (.int .i64 x0) .no, .v (.int .i64 x1) .no, .v (.bytes x2) .no, .v (.int .i64 x3) .no, .v (.int .i64 x4) .no, .v (.int .i64 x5) .no, .v (.int .i64 x6) .no, .v (.int .i64 x7) .no, .v (.sl 48 x8) .no], .v (.bool x9) .no, .clos 36 []] [⟨56, [.v (.sl 62 y0) (.own (.slot 0) 62)]⟩] [] [⟨56, [.v (.sl 62 z0) (.own (.slot 0) 62)]⟩] := by
  refine view_of (Bs := [⟨56, [.v (.sl 62 y0) (.own (.slot 0) 62)]⟩]) (Bs' := [⟨56, [.v (.sl 62 z0) (.own (.slot 0) 62)]⟩]) (cx := cx_partName N) (by kernel_rfl) (co_partName N) Try.func33 (by kernel_rfl) (by kernel_rfl) (lo_partName N) rfl rfl rfl rfl (rf := r_partName (fun z'0 => some z'0)) (r := z0) ?_ ?_
  · exact (C_partName_ok N x0 x1 x2 x3 x4 x5 x6 x7 x8 x9 y0 _).trans h
  · intro rs' m' hx
    unfold r_partName at hx
    split at hx
    · cases hx; exact ⟨rfl, rfl, _, rfl⟩
    · cases hx
noncomputable def e_partSize {R : Type} (s : Int → Int → List UInt8 → Int → Int → Int → Int → Int → List V → Bool → List V → Option (List V)) (dst : Nat) (ds : List D) (m : Mem) (K : List D → Mem → Option R) : Option R :=
  match ds with
  | [.ptr (kv0 + 1) sv0 0, .agg [.v (.int .i64 x0) .no, .v (.int .i64 x1) .no, .v (.bytes x2) .no, .v (.int .i64 x3) .no, .v (.int .i64 x4) .no, .v (.int .i64 x5) .no, .v (.int .i64 x6) .no, .v (.int .i64 x7) .no, .v (.sl 48 x8) .no], .v (.bool x9) .no, .clos 37 []] => viewK [(kv0, sv0)] m fun Bs => (match Bs with
    | [⟨56, [.v (.sl 62 y0) (.own (.slot 0) 62)]⟩] => bnd1 (s x0 x1 x2 x3 x4 x5 x6 x7 x8 x9 y0) fun z0 => putAllK [(kv0, sv0)] [⟨56, [.v (.sl 62 z0) (.own (.slot 0) 62)]⟩] m fun m' => K [] m'
    | _ => none)
  | _ => none
noncomputable def r_partSize {α : Type} (K : List V → Option α) (rs : List D) (m : Mem) : Option α :=
  match rs, m with
  | [], [_, [(0, ⟨56, [.v (.sl 62 z0) (.own (.slot 0) 62)]⟩)]] => K z0
  | _, _ => none
noncomputable def C_partSize {R : Type} (N : Nat) (x0 : Int) (x1 : Int) (x2 : List UInt8) (x3 : Int) (x4 : Int) (x5 : Int) (x6 : Int) (x7 : Int) (x8 : List V) (x9 : Bool) (y0 : List V) (K0 : List V → Option R) : Option R := br x9 (bnd1 (s_fsize N x0 x1 x2 x3 x4 x5 x6 x7 x8 y0) fun l0 => K0 l0) (K0 y0)
noncomputable def s_partSize (N : Nat) (x0 : Int) (x1 : Int) (x2 : List UInt8) (x3 : Int) (x4 : Int) (x5 : Int) (x6 : Int) (x7 : Int) (x8 : List V) (x9 : Bool) (y0 : List V) : Option (List V) := C_partSize N x0 x1 x2 x3 x4 x5 x6 x7 x8 x9 y0 (fun z0 => some z0)
noncomputable def cx_partSize (N : Nat) : Cx := { T := T, isPure := tabP [], pureK := fun g ds K => tabK [] g ds K, memK := fun g dst ds m K => tabMK [⟨37, e_fsize (s_fsize N)⟩] g dst ds m K, meth := tabM [], keep := fun _ => [], keepX := fun _ => [], loopT := fun _ _ _ _ => none, jumps := 9 }
theorem C_partSize_ok {R : Type} (N : Nat) (x0 : Int) (x1 : Int) (x2 : List UInt8) (x3 : Int) (x4 : Int) (x5 : Int) (x6 : Int) (x7 : Int) (x8 : List V) (x9 : Bool) (y0 : List V) (K : List V → Option R) : bodyK (cx_partSize N) Try.f33 [.ptr 1 0 0, .agg [.v (.int .i64 x0) .no, .v (.int .i64 x1) .no, .v (.bytes x2) .no, .v (.int .i64 x3) .no, .v (.int .i64 x4) .no, .v (.int .i64 x5) .no, .v (.int .i64 x6) .no, .v (.int .i64 x7) .no, .v (.sl 48 x8) .no], .v (.bool x9) .no, .clos 37 []] [frOf 0 [⟨56, [.v (.sl 62 y0) (.own (.slot 0) 62)]⟩]] (r_partSize K) = C_partSize N x0 x1 x2 x3 x4 x5 x6 x7 x8 x9 y0 (fun z0 => K z0) := by
  kernel_rfl
theorem go_partSize : Goes Try.prog 33 := goes_of Try.func33 (by kernel_rfl) (c := bodyOf Try.f33) (by kernel_rfl)
theorem eo_partSize (s : Int → Int → List UInt8 → Int → Int → Int → Int → Int → List V → Bool → List V → Option (List V)) (hs : ∀ (x0 : Int) (x1 : Int) (x2 : List UInt8) (x3 : Int) (x4 : Int) (x5 : Int) (x6 : Int) (x7 : Int) (x8 : List V) (x9 : Bool) (y0 : List V) (z0 : List V), s x0 x1 x2 x3 x4 x5 x6 x7 x8 x9 y0 = some z0 → ViewRet Try.prog T 33 [.ptr 1 0 0, .agg [.v (.int .i64 x0) .no, .v (.int .i64 x1) .no, .v (.bytes x2) .no, .v (.int .i64 x3) .no, .v (.int .i64 x4) .no, .v (.int .i64 x5) .no, .v (.int .i64 x6) .no, .v (.int .i64 x7) .no, .v (.sl 48 x8) .no], .v (.bool x9) .no, .clos 37 []] [⟨56, [.v (.sl 62 y0) (.own (.slot 0) 62)]⟩] [] [⟨56, [.v (.sl 62 z0) (.own (.slot 0) 62)]⟩]) : MEntOK Try.prog T ⟨33, e_partSize s⟩ := by
  refine ⟨go_partSize, fun R dst ds m K r h => ?_⟩
  simp only [e_partSize] at h
  split at h
  · obtain ⟨Bs, a1, a2, a3, h⟩ := viewK_some h
    split at h
    · obtain ⟨z0, h1, h2⟩ := bnd1_some h
      rw [putAllK_eq] at h2
      exact ⟨_, _, h2, hs _ _ _ _ _ _ _ _ _ _ _ _ h1 _ _ m dst a1 a2 a3 ⟨aren_ptr _ rfl, aren_agg ⟨aren_v _, aren_v _, aren_v _, aren_v _, aren_v _, aren_v _, aren_v _, aren_v _, aren_v _, trivial⟩, aren_v _, aren_clos trivial, trivial⟩⟩
    · cases h
  · cases h
theorem co_partSize (N : Nat) : CxOK Try.prog (cx_partSize N) :=
  cxOK_of2 (es := []) (me := [⟨37, e_fsize (s_fsize N)⟩]) (ms := []) T_ok trivial ⟨eo_fsize _ (p_fsize N), trivial⟩ trivial rfl (fun _ _ _ _ => rfl) (fun _ _ _ _ _ _ => rfl) rfl
theorem lo_partSize (N : Nat) : LoopsOK (cx_partSize N) Try.f33.ntmps (bodyOf Try.f33) :=
  loopsOK_of (k := 0) (by kernel_rfl) trivial
open Classical in
theorem p_partSize (N : Nat) (x0 : Int) (x1 : Int) (x2 : List UInt8) (x3 : Int) (x4 : Int) (x5 : Int) (x6 : Int) (x7 : Int) (x8 : List V) (x9 : Bool) (y0 : List V) (z0 : List V) (h : s_partSize N x0 x1 x2 x3 x4 x5 x6 x7 x8 x9 y0 = some z0) : ViewRet Try.prog T 33 [.ptr 1 0 0, .agg [.v (.int .i64 x0) .no, .v (.int .i64 x1) .no, .v (.bytes x2) .no, .v (.int .i64 x3) .no, .v (.int .i64 x4) .no, .v (.int .i64 x5) .no, .v (.int .i64 x6) .no, .v (.int .i64 x7) .no, .v (.sl 48 x8) .no], .v (.bool x9) .no, .clos 37 []] [⟨56, [.v (.sl 62 y0) (.own (.slot 0) 62)]⟩] [] [⟨56, [.v (.sl 62 z0) (.own (.slot 0) 62)]⟩] := by
  refine view_of (Bs := [⟨56, [.v (.sl 62 y0) (.own (.slot 0) 62)]⟩]) (Bs' := [⟨56, [.v (.sl 62 z0) (.own (.slot 0) 62)]⟩]) (cx := cx_partSize N) (by kernel_rfl) (co_partSize N) Try.func33 (by kernel_rfl) (by kernel_rfl) (lo_partSize N) rfl rfl rfl rfl (rf := r_partSize (fun z'0 => some z'0)) (r := z0) ?_ ?_
  · exact (C_partSize_ok N x0 x1 x2 x3 x4 x5 x6 x7 x8 x9 y0 _).trans h
  · intro rs' m' hx
    unfold r_partSize at hx
    split at hx
    · cases hx; exact ⟨rfl, rfl, _, rfl⟩
    · cases hx
noncomputable def e_partShort {R : Type} (s : Int → Int → List UInt8 → Int → Int → Int → Int → Int → List V → Bool → List V → Option (List V)) (dst : Nat) (ds : List D) (m : Mem) (K : List D → Mem → Option R) : Option R :=
  match ds with
  | [.ptr (kv0 + 1) sv0 0, .agg [.v (.int .i64 x0) .no, .v (.int .i64 x1) .no, .v (.bytes x2) .no, .v (.int .i64 x3) .no, .v (.int .i64 x4) .no, .v (.int .i64 x5) .no, .v (.int .i64 x6) .no, .v (.int .i64 x7) .no, .v (.sl 48 x8) .no], .v (.bool x9) .no, .clos 38 []] => viewK [(kv0, sv0)] m fun Bs => (match Bs with
    | [⟨56, [.v (.sl 62 y0) (.own (.slot 0) 62)]⟩] => bnd1 (s x0 x1 x2 x3 x4 x5 x6 x7 x8 x9 y0) fun z0 => putAllK [(kv0, sv0)] [⟨56, [.v (.sl 62 z0) (.own (.slot 0) 62)]⟩] m fun m' => K [] m'
    | _ => none)
  | _ => none
noncomputable def r_partShort {α : Type} (K : List V → Option α) (rs : List D) (m : Mem) : Option α :=
  match rs, m with
  | [], [_, [(0, ⟨56, [.v (.sl 62 z0) (.own (.slot 0) 62)]⟩)]] => K z0
  | _, _ => none
noncomputable def C_partShort {R : Type} (N : Nat) (x0 : Int) (x1 : Int) (x2 : List UInt8) (x3 : Int) (x4 : Int) (x5 : Int) (x6 : Int) (x7 : Int) (x8 : List V) (x9 : Bool) (y0 : List V) (K0 : List V → Option R) : Option R := br x9 (bnd1 (s_fshort N x0 x1 x2 x3 x4 x5 x6 x7 x8 y0) fun l0 => K0 l0) (K0 y0)
noncomputable def s_partShort (N : Nat) (x0 : Int) (x1 : Int) (x2 : List UInt8) (x3 : Int) (x4 : Int) (x5 : Int) (x6 : Int) (x7 : Int) (x8 : List V) (x9 : Bool) (y0 : List V) : Option (List V) := C_partShort N x0 x1 x2 x3 x4 x5 x6 x7 x8 x9 y0 (fun z0 => some z0)
noncomputable def cx_partShort (N : Nat) : Cx := { T := T, isPure := tabP [], pureK := fun g ds K => tabK [] g ds K, memK := fun g dst ds m K => tabMK [⟨38, e_fshort (s_fshort N)⟩] g dst ds m K, meth := tabM [], keep := fun _ => [], keepX := fun _ => [], loopT := fun _ _ _ _ => none, jumps := 9 }
theorem C_partShort_ok {R : Type} (N : Nat) (x0 : Int) (x1 : Int) (x2 : List UInt8) (x3 : Int) (x4 : Int) (x5 : Int) (x6 : Int) (x7 : Int) (x8 : List V) (x9 : Bool) (y0 : List V) (K : List V → Option R) : bodyK (cx_partShort N) Try.f33 [.ptr 1 0 0, .agg [.v (.int .i64 x0) .no, .v (.int .i64 x1) .no, .v (.bytes x2) .no, .v (.int .i64 x3) .no, .v (.int .i64 x4) .no, .v (.int .i64 x5) .no, .v (.int .i64 x6) .no, .v (.int .i64 x7) .no, .v (.sl 48 x8) .no], .v (.bool x9) .no, .clos 38 []] [frOf 0 [⟨56, [.v (.sl 62 y0) (.own (.slot 0) 62)]⟩]] (r_partShort K) = C_partShort N x0 x1 x2 x3 x4 x5 x6 x7 x8 x9 y0 (fun z0 => K z0) := by
  kernel_rfl
theorem go_partShort : Goes Try.prog 33 := goes_of Try.func33 (by kernel_rfl) (c := bodyOf Try.f33) (by kernel_rfl)
theorem eo_partShort (s : Int → Int → List UInt8 → Int → Int → Int → Int → Int → List V → Bool → List V → Option (List V)) (hs : ∀ (x0 : Int) (x1 : Int) (x2 : List UInt8) (x3 : Int) (x4 : Int) (x5 : Int) (x6 : Int) (x7 : Int) (x8 : List V) (x9 : Bool) (y0 : List V) (z0 : List V), s x0 x1 x2 x3 x4 x5 x6 x7 x8 x9 y0 = some z0 → ViewRet Try.prog T 33 [.ptr 1 0 0, .agg [.v (.int .i64 x0) .no, .v (.int .i64 x1) .no, .v (.bytes x2) .no, .v (.int .i64 x3) .no, .v (.int .i64 x4) .no, .v (.int .i64 x5) .no, .v (.int .i64 x6) .no, .v (.int .i64 x7) .no, .v (.sl 48 x8) .no], .v (.bool x9) .no, .clos 38 []] [⟨56, [.v (.sl 62 y0) (.own (.slot 0) 62)]⟩] [] [⟨56, [.v (.sl 62 z0) (.own (.slot 0) 62)]⟩]) : MEntOK Try.prog T ⟨33, e_partShort s⟩ := by
  refine ⟨go_partShort, fun R dst ds m K r h => ?_⟩
  simp only [e_partShort] at h
  split at h
  · obtain ⟨Bs, a1, a2, a3, h⟩ := viewK_some h
    split at h
    · obtain ⟨z0, h1, h2⟩ := bnd1_some h
      rw [putAllK_eq] at h2
      exact ⟨_, _, h2, hs _ _ _ _ _ _ _ _ _ _ _ _ h1 _ _ m dst a1 a2 a3 ⟨aren_ptr _ rfl, aren_agg ⟨aren_v _, aren_v _, aren_v _, aren_v _, aren_v _, aren_v _, aren_v _, aren_v _, aren_v _, trivial⟩, aren_v _, aren_clos trivial, trivial⟩⟩
    · cases h
  · cases h
theorem co_partShort (N : Nat) : CxOK Try.prog (cx_partShort N) :=
  cxOK_of2 (es := []) (me := [⟨38, e_fshort (s_fshort N)⟩]) (ms := []) T_ok trivial ⟨eo_fshort _ (p_fshort N), trivial⟩ trivial rfl (fun _ _ _ _ => rfl) (fun _ _ _ _ _ _ => rfl) rfl
theorem lo_partShort (N : Nat) : LoopsOK (cx_partShort N) Try.f33.ntmps (bodyOf Try.f33) :=
  loopsOK_of (k := 0) (by kernel_rfl) trivial
open Classical in
theorem p_partShort (N : Nat) (x0 : Int) (x1 : Int) (x2 : List UInt8) (x3 : Int) (x4 : Int) (x5 : Int) (x6 : Int) (x7 : Int) (x8 : List V) (x9 : Bool) (y0 : List V) (z0 : List V) (h : s_partShort N x0 x1 x2 x3 x4 x5 x6 x7 x8 x9 y0 = some z0) : ViewRet Try.prog T 33 [.ptr 1 0 0, .agg [.v (.int .i64 x0) .no, .v (.int .i64 x1) .no, .v (.bytes x2) .no, .v (.int .i64 x3) .no, .v (.int .i64 x4) .no, .v (.int .i64 x5) .no, .v (.int .i64 x6) .no, .v (.int .i64 x7) .no, .v (.sl 48 x8) .no], .v (.bool x9) .no, .clos 38 []] [⟨56, [.v (.sl 62 y0) (.own (.slot 0) 62)]⟩] [] [⟨56, [.v (.sl 62 z0) (.own (.slot 0) 62)]⟩] := by
  refine view_of (Bs := [⟨56, [.v (.sl 62 y0) (.own (.slot 0) 62)]⟩]) (Bs' := [⟨56, [.v (.sl 62 z0) (.own (.slot 0) 62)]⟩]) (cx := cx_partShort N) (by kernel_rfl) (co_partShort N) Try.func33 (by kernel_rfl) (by kernel_rfl) (lo_partShort N) rfl rfl rfl rfl (rf := r_partShort (fun z'0 => some z'0)) (r := z0) ?_ ?_
  · exact (C_partShort_ok N x0 x1 x2 x3 x4 x5 x6 x7 x8 x9 y0 _).trans h
  · intro rs' m' hx
    unfold r_partShort at hx
    split at hx
    · cases hx; exact ⟨rfl, rfl, _, rfl⟩
    · cases hx
noncomputable def e_partState {R : Type} (s : Int → Int → List UInt8 → Int → Int → Int → Int → Int → List V → Bool → List V → Option (List V)) (dst : Nat) (ds : List D) (m : Mem) (K : List D → Mem → Option R) : Option R :=
  match ds with
  | [.ptr (kv0 + 1) sv0 0, .agg [.v (.int .i64 x0) .no, .v (.int .i64 x1) .no, .v (.bytes x2) .no, .v (.int .i64 x3) .no, .v (.int .i64 x4) .no, .v (.int .i64 x5) .no, .v (.int .i64 x6) .no, .v (.int .i64 x7) .no, .v (.sl 48 x8) .no], .v (.bool x9) .no, .clos 39 []] => viewK [(kv0, sv0)] m fun Bs => (match Bs with
    | [⟨56, [.v (.sl 62 y0) (.own (.slot 0) 62)]⟩] => bnd1 (s x0 x1 x2 x3 x4 x5 x6 x7 x8 x9 y0) fun z0 => putAllK [(kv0, sv0)] [⟨56, [.v (.sl 62 z0) (.own (.slot 0) 62)]⟩] m fun m' => K [] m'
    | _ => none)
  | _ => none
noncomputable def r_partState {α : Type} (K : List V → Option α) (rs : List D) (m : Mem) : Option α :=
  match rs, m with
  | [], [_, [(0, ⟨56, [.v (.sl 62 z0) (.own (.slot 0) 62)]⟩)]] => K z0
  | _, _ => none
noncomputable def C_partState {R : Type} (N : Nat) (x0 : Int) (x1 : Int) (x2 : List UInt8) (x3 : Int) (x4 : Int) (x5 : Int) (x6 : Int) (x7 : Int) (x8 : List V) (x9 : Bool) (y0 : List V) (K0 : List V → Option R) : Option R := br x9 (bnd1 (s_fstate N x0 x1 x2 x3 x4 x5 x6 x7 x8 y0) fun l0 => K0 l0) (K0 y0)
noncomputable def s_partState (N : Nat) (x0 : Int) (x1 : Int) (x2 : List UInt8) (x3 : Int) (x4 : Int) (x5 : Int) (x6 : Int) (x7 : Int) (x8 : List V) (x9 : Bool) (y0 : List V) : Option (List V) := C_partState N x0 x1 x2 x3 x4 x5 x6 x7 x8 x9 y0 (fun z0 => some z0)
noncomputable def cx_partState (N : Nat) : Cx := { T := T, isPure := tabP [], pureK := fun g ds K => tabK [] g ds K, memK := fun g dst ds m K => tabMK [⟨39, e_fstate (s_fstate N)⟩] g dst ds m K, meth := tabM [], keep := fun _ => [], keepX := fun _ => [], loopT := fun _ _ _ _ => none, jumps := 9 }
theorem C_partState_ok {R : Type} (N : Nat) (x0 : Int) (x1 : Int) (x2 : List UInt8) (x3 : Int) (x4 : Int) (x5 : Int) (x6 : Int) (x7 : Int) (x8 : List V) (x9 : Bool) (y0 : List V) (K : List V → Option R) : bodyK (cx_partState N) Try.f33 [.ptr 1 0 0, .agg [.v (.int .i64 x0) .no, .v (.int .i64 x1) .no, .v (.bytes x2) .no, .v (.int .i64 x3) .no, .v (.int .i64 x4) .no, .v (.int .i64 x5) .no, .v (.int .i64 x6) .no, .v (.int .i64 x7) .no, .v (.sl 48 x8) .no], .v (.bool x9) .no, .clos 39 []] [frOf 0 [⟨56, [.v (.sl 62 y0) (.own (.slot 0) 62)]⟩]] (r_partState K) = C_partState N x0 x1 x2 x3 x4 x5 x6 x7 x8 x9 y0 (fun z0 => K z0) := by
  kernel_rfl
theorem go_partState : Goes Try.prog 33 := goes_of Try.func33 (by kernel_rfl) (c := bodyOf Try.f33) (by kernel_rfl)
theorem eo_partState (s : Int → Int → List UInt8 → Int → Int → Int → Int → Int → List V → Bool → List V → Option (List V)) (hs : ∀ (x0 : Int) (x1 : Int) (x2 : List UInt8) (x3 : Int) (x4 : Int) (x5 : Int) (x6 : Int) (x7 : Int) (x8 : List V) (x9 : Bool) (y0 : List V) (z0 : List V), s x0 x1 x2 x3 x4 x5 x6 x7 x8 x9 y0 = some z0 → ViewRet Try.prog T 33 [.ptr 1 0 0, .agg [.v (.int .i64 x0) .no, .v (.int .i64 x1) .no, .v (.bytes x2) .no, .v (.int .i64 x3) .no, .v (.int .i64 x4) .no, .v (.int .i64 x5) .no, .v (.int .i64 x6) .no, .v (.int .i64 x7) .no, .v (.sl 48 x8) .no], .v (.bool x9) .no, .clos 39 []] [⟨56, [.v (.sl 62 y0) (.own (.slot 0) 62)]⟩] [] [⟨56, [.v (.sl 62 z0) (.own (.slot 0) 62)]⟩]) : MEntOK Try.prog T ⟨33, e_partState s⟩ := by
  refine ⟨go_partState, fun R dst ds m K r h => ?_⟩
  simp only [e_partState] at h
  split at h
  · obtain ⟨Bs, a1, a2, a3, h⟩ := viewK_some h
    split at h
    · obtain ⟨z0, h1, h2⟩ := bnd1_some h
      rw [putAllK_eq] at h2
      exact ⟨_, _, h2, hs _ _ _ _ _ _ _ _ _ _ _ _ h1 _ _ m dst a1 a2 a3 ⟨aren_ptr _ rfl, aren_agg ⟨aren_v _, aren_v _, aren_v _, aren_v _, aren_v _, aren_v _, aren_v _, aren_v _, aren_v _, trivial⟩, aren_v _, aren_clos trivial, trivial⟩⟩
    · cases h
  · cases h
theorem co_partState (N : Nat) : CxOK Try.prog (cx_partState N) :=
  cxOK_of2 (es := []) (me := [⟨39, e_fstate (s_fstate N)⟩]) (ms := []) T_ok trivial ⟨eo_fstate _ (p_fstate N), trivial⟩ trivial rfl (fun _ _ _ _ => rfl) (fun _ _ _ _ _ _ => rfl) rfl
theorem lo_partState (N : Nat) : LoopsOK (cx_partState N) Try.f33.ntmps (bodyOf Try.f33) :=
  loopsOK_of (k := 0) (by kernel_rfl) trivial
open Classical in
theorem p_partState (N : Nat) (x0 : Int) (x1 : Int) (x2 : List UInt8) (x3 : Int) (x4 : Int) (x5 : Int) (x6 : Int) (x7 : Int) (x8 : List V) (x9 : Bool) (y0 : List V) (z0 : List V) (h : s_partState N x0 x1 x2 x3 x4 x5 x6 x7 x8 x9 y0 = some z0) : ViewRet Try.prog T 33 [.ptr 1 0 0, .agg [.v (.int .i64 x0) .no, .v (.int .i64 x1) .no, .v (.bytes x2) .no, .v (.int .i64 x3) .no, .v (.int .i64 x4) .no, .v (.int .i64 x5) .no, .v (.int .i64 x6) .no, .v (.int .i64 x7) .no, .v (.sl 48 x8) .no], .v (.bool x9) .no, .clos 39 []] [⟨56, [.v (.sl 62 y0) (.own (.slot 0) 62)]⟩] [] [⟨56, [.v (.sl 62 z0) (.own (.slot 0) 62)]⟩] := by
  refine view_of (Bs := [⟨56, [.v (.sl 62 y0) (.own (.slot 0) 62)]⟩]) (Bs' := [⟨56, [.v (.sl 62 z0) (.own (.slot 0) 62)]⟩]) (cx := cx_partState N) (by kernel_rfl) (co_partState N) Try.func33 (by kernel_rfl) (by kernel_rfl) (lo_partState N) rfl rfl rfl rfl (rf := r_partState (fun z'0 => some z'0)) (r := z0) ?_ ?_
  · exact (C_partState_ok N x0 x1 x2 x3 x4 x5 x6 x7 x8 x9 y0 _).trans h
  · intro rs' m' hx
    unfold r_partState at hx
    split at hx
    · cases hx; exact ⟨rfl, rfl, _, rfl⟩
    · cases hx
noncomputable def e_partRules {R : Type} (s : Int → Int → List UInt8 → Int → Int → Int → Int → Int → List V → Bool → List V → Option (List V)) (dst : Nat) (ds : List D) (m : Mem) (K : List D → Mem → Option R) : Option R :=
  match ds with
  | [.ptr (kv0 + 1) sv0 0, .agg [.v (.int .i64 x0) .no, .v (.int .i64 x1) .no, .v (.bytes x2) .no, .v (.int .i64 x3) .no, .v (.int .i64 x4) .no, .v (.int .i64 x5) .no, .v (.int .i64 x6) .no, .v (.int .i64 x7) .no, .v (.sl 48 x8) .no], .v (.bool x9) .no, .clos 40 []] => viewK [(kv0, sv0)] m fun Bs => (match Bs with
    | [⟨56, [.v (.sl 62 y0) (.own (.slot 0) 62)]⟩] => bnd1 (s x0 x1 x2 x3 x4 x5 x6 x7 x8 x9 y0) fun z0 => putAllK [(kv0, sv0)] [⟨56, [.v (.sl 62 z0) (.own (.slot 0) 62)]⟩] m fun m' => K [] m'
    | _ => none)
  | _ => none
noncomputable def r_partRules {α : Type} (K : List V → Option α) (rs : List D) (m : Mem) : Option α :=
  match rs, m with
  | [], [_, [(0, ⟨56, [.v (.sl 62 z0) (.own (.slot 0) 62)]⟩)]] => K z0
  | _, _ => none
noncomputable def C_partRules {R : Type} (N : Nat) (x0 : Int) (x1 : Int) (x2 : List UInt8) (x3 : Int) (x4 : Int) (x5 : Int) (x6 : Int) (x7 : Int) (x8 : List V) (x9 : Bool) (y0 : List V) (K0 : List V → Option R) : Option R := br x9 (bnd1 (s_frules N x0 x1 x2 x3 x4 x5 x6 x7 x8 y0) fun l0 => K0 l0) (K0 y0)
noncomputable def s_partRules (N : Nat) (x0 : Int) (x1 : Int) (x2 : List UInt8) (x3 : Int) (x4 : Int) (x5 : Int) (x6 : Int) (x7 : Int) (x8 : List V) (x9 : Bool) (y0 : List V) : Option (List V) := C_partRules N x0 x1 x2 x3 x4 x5 x6 x7 x8 x9 y0 (fun z0 => some z0)
noncomputable def cx_partRules (N : Nat) : Cx := { T := T, isPure := tabP [], pureK := fun g ds K => tabK [] g ds K, memK := fun g dst ds m K => tabMK [⟨40, e_frules (s_frules N)⟩] g dst ds m K, meth := tabM [], keep := fun _ => [], keepX := fun _ => [], loopT := fun _ _ _ _ => none, jumps := 9 }
theorem C_partRules_ok {R : Type} (N : Nat) (x0 : Int) (x1 : Int) (x2 : List UInt8) (x3 : Int) (x4 : Int) (x5 : Int) (x6 : Int) (x7 : Int) (x8 : List V) (x9 : Bool) (y0 : List V) (K : List V → Option R) : bodyK (cx_partRules N) Try.f33 [.ptr 1 0 0, .agg [.v (.int .i64 x0) .no, .v (.int .i64 x1) .no, .v (.bytes x2) .no, .v (.int .i64 x3) .no, .v (.int .i64 x4) .no, .v (.int .i64 x5) .no, .v (.int .i64 x6) .no, .v (.int .i64 x7) .no, .v (.sl 48 x8) .no], .v (.bool x9) .no, .clos 40 []] [frOf 0 [⟨56, [.v (.sl 62 y0) (.own (.slot 0) 62)]⟩]] (r_partRules K) = C_partRules N x0 x1 x2 x3 x4 x5 x6 x7 x8 x9 y0 (fun z0 => K z0) := by
  kernel_rfl
theorem go_partRules : Goes Try.prog 33 := goes_of Try.func33 (by kernel_rfl) (c := bodyOf Try.f33) (by kernel_rfl)
theorem eo_partRules (s : Int → Int → List UInt8 → Int → Int → Int → Int → Int → List V → Bool → List V → Option (List V)) (hs : ∀ (x0 : Int) (x1 : Int) (x2 : List UInt8) (x3 : Int) (x4 : Int) (x5 : Int) (x6 : Int) (x7 : Int) (x8 : List V) (x9 : Bool) (y0 : List V) (z0 : List V), s x0 x1 x2 x3 x4 x5 x6 x7 x8 x9 y0 = some z0 → ViewRet Try.prog T 33 [.ptr 1 0 0, .agg [.v (.int .i64 x0) .no, .v (.int .i64 x1) .no, .v (.bytes x2) .no, .v (.int .i64 x3) .no, .v (.int .i64 x4) .no, .v (.int .i64 x5) .no, .v (.int .i64 x6) .no, .v (.int .i64 x7) .no, .v (.sl 48 x8) .no], .v (.bool x9) .no, .clos 40 []] [⟨56, [.v (.sl 62 y0) (.own (.slot 0) 62)]⟩] [] [⟨56, [.v (.sl 62 z0) (.own (.slot 0) 62)]⟩]) : MEntOK Try.prog T ⟨33, e_partRules s⟩ := by
  refine ⟨go_partRules, fun R dst ds m K r h => ?_⟩
  simp only [e_partRules] at h
  split at h
  · obtain ⟨Bs, a1, a2, a3, h⟩ := viewK_some h
    split at h
    · obtain ⟨z0, h1, h2⟩ := bnd1_some h
      rw [putAllK_eq] at h2
      exact ⟨_, _, h2, hs _ _ _ _ _ _ _ _ _ _ _ _ h1 _ _ m dst a1 a2 a3 ⟨aren_ptr _ rfl, aren_agg ⟨aren_v _, aren_v _, aren_v _, aren_v _, aren_v _, aren_v _, aren_v _, aren_v _, aren_v _, trivial⟩, aren_v _, aren_clos trivial, trivial⟩⟩
    · cases h
  · cases h
theorem co_partRules (N : Nat) : CxOK Try.prog (cx_partRules N) :=
  cxOK_of2 (es := []) (me := [⟨40, e_frules (s_frules N)⟩]) (ms := []) T_ok trivial ⟨eo_frules _ (p_frules N), trivial⟩ trivial rfl (fun _ _ _ _ => rfl) (fun _ _ _ _ _ _ => rfl) rfl
theorem lo_partRules (N : Nat) : LoopsOK (cx_partRules N) Try.f33.ntmps (bodyOf Try.f33) :=
  loopsOK_of (k := 0) (by kernel_rfl) trivial
open Classical in
theorem p_partRules (N : Nat) (x0 : Int) (x1 : Int) (x2 : List UInt8) (x3 : Int) (x4 : Int) (x5 : Int) (x6 : Int) (x7 : Int) (x8 : List V) (x9 : Bool) (y0 : List V) (z0 : List V) (h : s_partRules N x0 x1 x2 x3 x4 x5 x6 x7 x8 x9 y0 = some z0) : ViewRet Try.prog T 33 [.ptr 1 0 0, .agg [.v (.int .i64 x0) .no, .v (.int .i64 x1) .no, .v (.bytes x2) .no, .v (.int .i64 x3) .no, .v (.int .i64 x4) .no, .v (.int .i64 x5) .no, .v (.int .i64 x6) .no, .v (.int .i64 x7) .no, .v (.sl 48 x8) .no], .v (.bool x9) .no, .clos 40 []] [⟨56, [.v (.sl 62 y0) (.own (.slot 0) 62)]⟩] [] [⟨56, [.v (.sl 62 z0) (.own (.slot 0) 62)]⟩] := by
  refine view_of (Bs := [⟨56, [.v (.sl 62 y0) (.own (.slot 0) 62)]⟩]) (Bs' := [⟨56, [.v (.sl 62 z0) (.own (.slot 0) 62)]⟩]) (cx := cx_partRules N) (by kernel_rfl) (co_partRules N) Try.func33 (by kernel_rfl) (by kernel_rfl) (lo_partRules N) rfl rfl rfl rfl (rf := r_partRules (fun z'0 => some z'0)) (r := z0) ?_ ?_
  · exact (C_partRules_ok N x0 x1 x2 x3 x4 x5 x6 x7 x8 x9 y0 _).trans h
  · intro rs' m' hx
    unfold r_partRules at hx
    split at hx
    · cases hx; exact ⟨rfl, rfl, _, rfl⟩
    · cases hx
noncomputable def e_fEncode {R : Type} (s : Int → Int → List UInt8 → Int → Int → Int → Int → Int → List V → Option (List UInt8 × Int)) (ds : List D) (K : List D → Option R) : Option R :=
  match ds with
  | [.agg [.v (.int .i64 x0) .no, .v (.int .i64 x1) .no, .v (.bytes x2) .no, .v (.int .i64 x3) .no, .v (.int .i64 x4) .no, .v (.int .i64 x5) .no, .v (.int .i64 x6) .no, .v (.int .i64 x7) .no, .v (.sl 48 x8) .no]] => bnd2 (s x0 x1 x2 x3 x4 x5 x6 x7 x8) fun r0 r1 => K [.v (.bytes r0) .no, .v (.int .i64 r1) .no]
  | _ => none
noncomputable def r_fEncode (rs : List D) (_ : Mem) : Option (List UInt8 × Int) :=
  match rs with
  | [.v (.bytes r0) _, .v (.int .i64 r1) _] => some (r0, r1)
  | _ => none
noncomputable def s_fEncode (N : Nat) (x0 : Int) (x1 : Int) (x2 : List UInt8) (x3 : Int) (x4 : Int) (x5 : Int) (x6 : Int) (x7 : Int) (x8 : List V) : Option (List UInt8 × Int) := bnd1 (s_fCheck N x0 x1 x2 x3 x4 x5 x6 x7 x8) fun n0 => br (!decide (n0 = 0)) (some ([], n0)) (bnd1 (s_partKinds N x0 x1 x2 x3 x4 x5 x6 x7 x8 true []) fun l1 => bnd1 (s_partIdent N x0 x1 x2 x3 x4 x5 x6 x7 x8 true l1) fun l2 => bnd1 (s_partName N x0 x1 x2 x3 x4 x5 x6 x7 x8 (decide (0 < (↑x2.length : Int))) l2) fun l3 => bnd1 (s_partSize N x0 x1 x2 x3 x4 x5 x6 x7 x8 (decide (x1 = 2)) l3) fun l4 => bnd1 (s_partShort N x0 x1 x2 x3 x4 x5 x6 x7 x8 (!decide (x3 = 0)) l4) fun l5 => bnd1 (s_partState N x0 x1 x2 x3 x4 x5 x6 x7 x8 true l5) fun l6 => bnd1 (s_partRules N x0 x1 x2 x3 x4 x5 x6 x7 x8 (decide (0 < (↑x8.length : Int))) l6) fun l7 => bnd2 (s_Encode N [V.agg [V.int IntKind.i64 98, V.bytes [], V.sl 62 l7]]) fun l8 n9 => some (l8, n9))
noncomputable def cx_fEncode (N : Nat) : Cx := { T := T, isPure := tabP [⟨11, e_fCheck (s_fCheck N)⟩, ⟨41, e_Encode (s_Encode N)⟩], pureK := fun g ds K => tabK [⟨11, e_fCheck (s_fCheck N)⟩, ⟨41, e_Encode (s_Encode N)⟩] g ds K, memK := fun g dst ds m K => tabMK [(selM 34 ⟨33, e_partKinds (s_partKinds N)⟩ (selM 35 ⟨33, e_partIdent (s_partIdent N)⟩ (selM 36 ⟨33, e_partName (s_partName N)⟩ (selM 37 ⟨33, e_partSize (s_partSize N)⟩ (selM 38 ⟨33, e_partShort (s_partShort N)⟩ (selM 39 ⟨33, e_partState (s_partState N)⟩ ⟨33, e_partRules (s_partRules N)⟩)))))), ⟨34, e_fkinds (s_fkinds N)⟩, ⟨35, e_fident (s_fident N)⟩, ⟨36, e_fname (s_fname N)⟩, ⟨37, e_fsize (s_fsize N)⟩, ⟨38, e_fshort (s_fshort N)⟩, ⟨39, e_fstate (s_fstate N)⟩, ⟨40, e_frules (s_frules N)⟩] g dst ds m K, meth := tabM [], keep := fun _ => [], keepX := fun _ => [], loopT := fun _ _ _ _ => none, jumps := 9 }
theorem s_fEncode_ok (N : Nat) (x0 : Int) (x1 : Int) (x2 : List UInt8) (x3 : Int) (x4 : Int) (x5 : Int) (x6 : Int) (x7 : Int) (x8 : List V) : bodyK (cx_fEncode N) Try.f14 [.agg [.v (.int .i64 x0) .no, .v (.int .i64 x1) .no, .v (.bytes x2) .no, .v (.int .i64 x3) .no, .v (.int .i64 x4) .no, .v (.int .i64 x5) .no, .v (.int .i64 x6) .no, .v (.int .i64 x7) .no, .v (.sl 48 x8) .no]] [] r_fEncode = s_fEncode N x0 x1 x2 x3 x4 x5 x6 x7 x8 := by
  kernel_rfl
theorem go_fEncode : Goes Try.prog 14 := goes_of Try.func14 (by kernel_rfl) (c := bodyOf Try.f14) (by kernel_rfl)
theorem eo_fEncode (s : Int → Int → List UInt8 → Int → Int → Int → Int → Int → List V → Option (List UInt8 × Int)) (hs : ∀ (x0 : Int) (x1 : Int) (x2 : List UInt8) (x3 : Int) (x4 : Int) (x5 : Int) (x6 : Int) (x7 : Int) (x8 : List V) (r0 : List UInt8) (r1 : Int), s x0 x1 x2 x3 x4 x5 x6 x7 x8 = some (r0, r1) → PureRet Try.prog T 14 [.agg [.v (.int .i64 x0) .no, .v (.int .i64 x1) .no, .v (.bytes x2) .no, .v (.int .i64 x3) .no, .v (.int .i64 x4) .no, .v (.int .i64 x5) .no, .v (.int .i64 x6) .no, .v (.int .i64 x7) .no, .v (.sl 48 x8) .no]] [.v (.bytes r0) .no, .v (.int .i64 r1) .no]) : EntOK Try.prog T ⟨14, e_fEncode s⟩ := by
  refine ⟨go_fEncode, fun R ds K r h => ?_, fun R ds K => ?_⟩
  · simp only [e_fEncode] at h
    split at h
    · obtain ⟨r0, r1, h1, h2⟩ := bnd2_some h
      exact ⟨_, h2, hs _ _ _ _ _ _ _ _ _ _ _ h1⟩
    · cases h
  · simp only [e_fEncode]
    split
    · rw [bnd2_b]; rfl
    · rfl
theorem co_fEncode (N : Nat) : CxOK Try.prog (cx_fEncode N) :=
  cxOK_of2 (es := [⟨11, e_fCheck (s_fCheck N)⟩, ⟨41, e_Encode (s_Encode N)⟩]) (me := [(selM 34 ⟨33, e_partKinds (s_partKinds N)⟩ (selM 35 ⟨33, e_partIdent (s_partIdent N)⟩ (selM 36 ⟨33, e_partName (s_partName N)⟩ (selM 37 ⟨33, e_partSize (s_partSize N)⟩ (selM 38 ⟨33, e_partShort (s_partShort N)⟩ (selM 39 ⟨33, e_partState (s_partState N)⟩ ⟨33, e_partRules (s_partRules N)⟩)))))), ⟨34, e_fkinds (s_fkinds N)⟩, ⟨35, e_fident (s_fident N)⟩, ⟨36, e_fname (s_fname N)⟩, ⟨37, e_fsize (s_fsize N)⟩, ⟨38, e_fshort (s_fshort N)⟩, ⟨39, e_fstate (s_fstate N)⟩, ⟨40, e_frules (s_frules N)⟩]) (ms := []) T_ok ⟨eo_fCheck _ (p_fCheck N), eo_Encode _ (p_Encode N), trivial⟩ ⟨selM_ok rfl (eo_partKinds _ (p_partKinds N)) (selM_ok rfl (eo_partIdent _ (p_partIdent N)) (selM_ok rfl (eo_partName _ (p_partName N)) (selM_ok rfl (eo_partSize _ (p_partSize N)) (selM_ok rfl (eo_partShort _ (p_partShort N)) (selM_ok rfl (eo_partState _ (p_partState N)) (eo_partRules _ (p_partRules N))))))), eo_fkinds _ (p_fkinds N), eo_fident _ (p_fident N), eo_fname _ (p_fname N), eo_fsize _ (p_fsize N), eo_fshort _ (p_fshort N), eo_fstate _ (p_fstate N), eo_frules _ (p_frules N), trivial⟩ trivial rfl (fun _ _ _ _ => rfl) (fun _ _ _ _ _ _ => rfl) rfl
theorem lo_fEncode (N : Nat) : LoopsOK (cx_fEncode N) Try.f14.ntmps (bodyOf Try.f14) :=
  loopsOK_of (k := 0) (by kernel_rfl) trivial
theorem p_fEncode (N : Nat) (x0 : Int) (x1 : Int) (x2 : List UInt8) (x3 : Int) (x4 : Int) (x5 : Int) (x6 : Int) (x7 : Int) (x8 : List V) (r0 : List UInt8) (r1 : Int) (h : s_fEncode N x0 x1 x2 x3 x4 x5 x6 x7 x8 = some (r0, r1)) : PureRet Try.prog T 14 [.agg [.v (.int .i64 x0) .no, .v (.int .i64 x1) .no, .v (.bytes x2) .no, .v (.int .i64 x3) .no, .v (.int .i64 x4) .no, .v (.int .i64 x5) .no, .v (.int .i64 x6) .no, .v (.int .i64 x7) .no, .v (.sl 48 x8) .no]] [.v (.bytes r0) .no, .v (.int .i64 r1) .no] :=
  pure_of (cx := cx_fEncode N) (by kernel_rfl) (co_fEncode N) Try.func14 (by kernel_rfl) (by kernel_rfl) (lo_fEncode N) rfl rfl rfl (rf := r_fEncode) ((s_fEncode_ok N x0 x1 x2 x3 x4 x5 x6 x7 x8).trans h) (fun rs' m h => by
    unfold r_fEncode at h
    split at h
    · cases h; exact ⟨rfl, rfl⟩
    · cases h)
noncomputable def e_forder {R : Type} (s : Option (List V × List V)) (ds : List D) (K : List D → Option R) : Option R :=
  match ds with
  | [] => bnd2 (s) fun r0 r1 => K [.v (.sl 3 r0) .no, .v (.sl 4 r1) .no]
  | _ => none
noncomputable def r_forder (rs : List D) (_ : Mem) : Option (List V × List V) :=
  match rs with
  | [.v (.sl 3 r0) _, .v (.sl 4 r1) _] => some (r0, r1)
  | _ => none
noncomputable def s_forder (N : Nat)  : Option (List V × List V) := some ([V.int IntKind.i64 130, V.int IntKind.i64 131, V.int IntKind.i64 132, V.int IntKind.i64 128, V.int IntKind.i64 136, V.int IntKind.i64 138, V.int IntKind.i64 134], [V.bool true, V.bool true, V.bool false, V.bool false, V.bool false, V.bool true, V.bool false])
noncomputable def cx_forder (N : Nat) : Cx := { T := T, isPure := tabP [], pureK := fun g ds K => tabK [] g ds K, memK := fun g dst ds m K => tabMK [] g dst ds m K, meth := tabM [], keep := fun _ => [], keepX := fun _ => [], loopT := fun _ _ _ _ => none, jumps := 9 }
theorem s_forder_ok (N : Nat)  : bodyK (cx_forder N) Try.f74 [] [] r_forder = s_forder N  := by
  kernel_rfl
theorem go_forder : Goes Try.prog 74 := goes_of Try.func74 (by kernel_rfl) (c := bodyOf Try.f74) (by kernel_rfl)
theorem eo_forder (s : Option (List V × List V)) (hs : ∀  (r0 : List V) (r1 : List V), s  = some (r0, r1) → PureRet Try.prog T 74 [] [.v (.sl 3 r0) .no, .v (.sl 4 r1) .no]) : EntOK Try.prog T ⟨74, e_forder s⟩ := by
  refine ⟨go_forder, fun R ds K r h => ?_, fun R ds K => ?_⟩
  · simp only [e_forder] at h
    split at h
    · obtain ⟨r0, r1, h1, h2⟩ := bnd2_some h
      exact ⟨_, h2, hs _ _ h1⟩
    · cases h
  · simp only [e_forder]
    split
    · rw [bnd2_b]; rfl
    · rfl
theorem co_forder (N : Nat) : CxOK Try.prog (cx_forder N) :=
  cxOK_of2 (es := []) (me := []) (ms := []) T_ok trivial trivial trivial rfl (fun _ _ _ _ => rfl) (fun _ _ _ _ _ _ => rfl) rfl
theorem lo_forder (N : Nat) : LoopsOK (cx_forder N) Try.f74.ntmps (bodyOf Try.f74) :=
  loopsOK_of (k := 0) (by kernel_rfl) trivial
theorem p_forder (N : Nat)  (r0 : List V) (r1 : List V) (h : s_forder N  = some (r0, r1)) : PureRet Try.prog T 74 [] [.v (.sl 3 r0) .no, .v (.sl 4 r1) .no] :=
  pure_of (cx := cx_forder N) (by kernel_rfl) (co_forder N) Try.func74 (by kernel_rfl) (by kernel_rfl) (lo_forder N) rfl rfl rfl (rf := r_forder) ((s_forder_ok N ).trans h) (fun rs' m h => by
    unfold r_forder at h
    split at h
    · cases h; exact ⟨rfl, rfl⟩
    · cases h)
noncomputable def e_flengthFits {R : Type} (s : Int → List UInt8 → List V → Option (Bool)) (ds : List D) (K : List D → Option R) : Option R :=
  match ds with
  | [.agg [.v (.int .i64 x0) .no, .v (.bytes x1) .no, .v (.sl 62 x2) .no]] => bnd1 (s x0 x1 x2) fun r0 => K [.v (.bool r0) .no]
  | _ => none
noncomputable def r_flengthFits (rs : List D) (_ : Mem) : Option (Bool) :=
  match rs with
  | [.v (.bool r0) _] => some (r0)
  | _ => none
noncomputable def s_flengthFits (N : Nat) (x0 : Int) (x1 : List UInt8) (x2 : List V) : Option (Bool) := br (decide (x0 = 130)) (br (decide ((↑x1.length : Int) = 1)) (some true) (some (decide ((↑x1.length : Int) = 3)))) (br (decide (x0 = 131)) (some (decide ((↑x1.length : Int) = 2))) (br (decide (x0 = 128)) (some (decide ((↑x1.length : Int) = 2))) (br (decide (x0 = 136)) (some (decide ((↑x1.length : Int) = 1))) (br (decide (x0 = 138)) (some (decide ((↑x1.length : Int) = 1))) (some true)))))
noncomputable def cx_flengthFits (N : Nat) : Cx := { T := T, isPure := tabP [], pureK := fun g ds K => tabK [] g ds K, memK := fun g dst ds m K => tabMK [] g dst ds m K, meth := tabM [], keep := fun _ => [], keepX := fun _ => [], loopT := fun _ _ _ _ => none, jumps := 9 }
theorem s_flengthFits_ok (N : Nat) (x0 : Int) (x1 : List UInt8) (x2 : List V) : bodyK (cx_flengthFits N) Try.f75 [.agg [.v (.int .i64 x0) .no, .v (.bytes x1) .no, .v (.sl 62 x2) .no]] [] r_flengthFits = s_flengthFits N x0 x1 x2 := by
  kernel_rfl
theorem go_flengthFits : Goes Try.prog 75 := goes_of Try.func75 (by kernel_rfl) (c := bodyOf Try.f75) (by kernel_rfl)
theorem eo_flengthFits (s : Int → List UInt8 → List V → Option (Bool)) (hs : ∀ (x0 : Int) (x1 : List UInt8) (x2 : List V) (r0 : Bool), s x0 x1 x2 = some r0 → PureRet Try.prog T 75 [.agg [.v (.int .i64 x0) .no, .v (.bytes x1) .no, .v (.sl 62 x2) .no]] [.v (.bool r0) .no]) : EntOK Try.prog T ⟨75, e_flengthFits s⟩ := by
  refine ⟨go_flengthFits, fun R ds K r h => ?_, fun R ds K => ?_⟩
  · simp only [e_flengthFits] at h
    split at h
    · obtain ⟨r0, h1, h2⟩ := bnd1_some h
      exact ⟨_, h2, hs _ _ _ _ h1⟩
    · cases h
  · simp only [e_flengthFits]
    split
    · rw [bnd1_b]; rfl
    · rfl
theorem co_flengthFits (N : Nat) : CxOK Try.prog (cx_flengthFits N) :=
  cxOK_of2 (es := []) (me := []) (ms := []) T_ok trivial trivial trivial rfl (fun _ _ _ _ => rfl) (fun _ _ _ _ _ _ => rfl) rfl
theorem lo_flengthFits (N : Nat) : LoopsOK (cx_flengthFits N) Try.f75.ntmps (bodyOf Try.f75) :=
  loopsOK_of (k := 0) (by kernel_rfl) trivial
theorem p_flengthFits (N : Nat) (x0 : Int) (x1 : List UInt8) (x2 : List V) (r0 : Bool) (h : s_flengthFits N x0 x1 x2 = some r0) : PureRet Try.prog T 75 [.agg [.v (.int .i64 x0) .no, .v (.bytes x1) .no, .v (.sl 62 x2) .no]] [.v (.bool r0) .no] :=
  pure_of (cx := cx_flengthFits N) (by kernel_rfl) (co_flengthFits N) Try.func75 (by kernel_rfl) (by kernel_rfl) (lo_flengthFits N) rfl rfl rfl (rf := r_flengthFits) ((s_flengthFits_ok N x0 x1 x2).trans h) (fun rs' m h => by
    unfold r_flengthFits at h
    split at h
    · cases h; exact ⟨rfl, rfl⟩
    · cases h)
noncomputable def e_farranged {R : Type} (s : List V → Option (Bool)) (ds : List D) (K : List D → Option R) : Option R :=
  match ds with
  | [.v (.sl 62 x0) .no] => bnd1 (s x0) fun r0 => K [.v (.bool r0) .no]
  | _ => none
noncomputable def r_farranged (rs : List D) (_ : Mem) : Option (Bool) :=
  match rs with
  | [.v (.bool r0) _] => some (r0)
  | _ => none
noncomputable def F_farranged_3 {R : Type} (N : Nat) (vs1 : List V) (vs2 : List V) (n3 : Int) (Lq : List V → Int → Option R) (K0 : List V → Bool → Option R) (K1 : List V → Option R) (vs0 : List V) (n4 : Int) : Option R := br (decide (n4 < n3)) (br (decide (0 ≤ n4) && decide (n4 < (↑vs2.length : Int))) (at? vs2 n4.toNat fun x0 => V.unInt IntKind.i64 x0 fun n1 => br (decide (0 < (↑vs0.length : Int))) (br (decide (0 < (↑vs0.length : Int))) (at? vs0 0 fun x2 => x2.unAgg fun l3 => unCons l3 fun x4 l5 => V.unInt IntKind.i64 x4 fun n6 => unCons l5 fun x7 l8 => x7.unBytes fun l9 => unCons l8 fun x10 l11 => V.unSl 62 x10 fun l12 => unNil l11 (br (decide (n6 = n1)) (br (decide (0 < (↑vs0.length : Int))) (at? vs0 0 fun x13 => x13.unAgg fun l14 => unCons l14 fun x15 l16 => V.unInt IntKind.i64 x15 fun n17 => unCons l16 fun x18 l19 => x18.unBytes fun l20 => unCons l19 fun x21 l22 => V.unSl 62 x21 fun l23 => unNil l22 (bnd1 (s_flengthFits N n17 l20 l23) fun b24 => br (!b24) (K0 vs0 false) (br (decide (1 ≤ (↑vs0.length : Int))) (Lq (List.drop 1 vs0) (IntKind.i64.wrap (n4 + 1))) none))) none) (br (decide (0 ≤ n4) && decide (n4 < (↑vs1.length : Int))) (at? vs1 n4.toNat fun x25 => x25.unBool fun b26 => br b26 (K0 vs0 false) (Lq vs0 (IntKind.i64.wrap (n4 + 1)))) none))) none) (br (decide (0 ≤ n4) && decide (n4 < (↑vs1.length : Int))) (at? vs1 n4.toNat fun x27 => x27.unBool fun b28 => br b28 (K0 vs0 false) (Lq vs0 (IntKind.i64.wrap (n4 + 1)))) none)) none) (K1 vs0)
noncomputable def S_farranged_3 {R : Type} (N : Nat) (vs1 : List V) (vs2 : List V) (n3 : Int) : Nat → List V → Int → (List V → Bool → Option R) → (List V → Option R) → Option R | 0, _, _, _, _ => none | t + 1, vs0, n4, K0, K1 => F_farranged_3 N vs1 vs2 n3 (fun vs0 n4 => S_farranged_3 N vs1 vs2 n3 t vs0 n4 K0 K1) K0 K1 vs0 n4
noncomputable def l_farranged_3 {R : Type} (N : Nat) (ds : List D) (m : Mem) (K : Ex → List D → Mem → Option R) : Option R :=
  match ds, m with
  | [(.v (.sl 62 vs0) .no), (.v (.sl 4 vs1) .no), (.v (.sl 3 vs2) .no), (.v (.int .i64 n3) .no), (.v (.int .i64 n4) .no)], [[]] => S_farranged_3 N vs1 vs2 n3 N vs0 n4 (fun a0 a1 => K .ret [(.v (.sl 62 a0) .no), (.v (.bool a1) .no)] [[]]) (fun a0 => K (.exit 0) [(.v (.sl 62 a0) .no), .any] [[]])
  | _, _ => none
noncomputable def s_farranged (N : Nat) (x0 : List V) : Option (Bool) := bnd2 (s_forder N) fun l0 l1 => S_farranged_3 N l1 l0 (↑l0.length : Int) N x0 0 (fun l2 b3 => some b3) fun l4 => some (decide ((↑l4.length : Int) = 0))
noncomputable def cx_farranged (N : Nat) : Cx := { T := T, isPure := tabP [⟨74, e_forder (s_forder N)⟩, ⟨75, e_flengthFits (s_flengthFits N)⟩], pureK := fun g ds K => tabK [⟨74, e_forder (s_forder N)⟩, ⟨75, e_flengthFits (s_flengthFits N)⟩] g ds K, memK := fun g dst ds m K => tabMK [] g dst ds m K, meth := tabM [], keep := fun r => match r with | 3 => [0, 4, 11, 12, 13] | _ => [], keepX := fun r => match r with | 3 => [0, 2] | _ => [], loopT := fun r ds m K => match r with | 3 => l_farranged_3 N ds m K | _ => none, jumps := 9 }
theorem F_farranged_3_ok {R : Type} (N : Nat) (vs1 : List V) (vs2 : List V) (n3 : Int) (vs0 : List V) (n4 : Int) (L : List D → Mem → Option R) (K : Ex → List D → Mem → Option R) :
    roundK (fun st K => codeK (cx_farranged N) (loopN Try.f49 0) st K) 44 [0, 4, 11, 12, 13] [0, 2] L [(.v (.sl 62 vs0) .no), (.v (.sl 4 vs1) .no), (.v (.sl 3 vs2) .no), (.v (.int .i64 n3) .no), (.v (.int .i64 n4) .no)] [[]] K = F_farranged_3 N vs1 vs2 n3 (fun vs0 n4 => L [(.v (.sl 62 vs0) .no), (.v (.sl 4 vs1) .no), (.v (.sl 3 vs2) .no), (.v (.int .i64 n3) .no), (.v (.int .i64 n4) .no)] [[]]) (fun a0 a1 => K .ret [(.v (.sl 62 a0) .no), (.v (.bool a1) .no)] [[]]) (fun a0 => K (.exit 0) [(.v (.sl 62 a0) .no), .any] [[]]) vs0 n4 := by
  kernel_rfl
theorem S_farranged_3_ok {R : Type} (N : Nat) (vs1 : List V) (vs2 : List V) (n3 : Int) (K : Ex → List D → Mem → Option R) : ∀ (t : Nat) (vs0 : List V) (n4 : Int),
    loopK (fun st K => codeK (cx_farranged N) (loopN Try.f49 0) st K) 44 [0, 4, 11, 12, 13] [0, 2] t [(.v (.sl 62 vs0) .no), (.v (.sl 4 vs1) .no), (.v (.sl 3 vs2) .no), (.v (.int .i64 n3) .no), (.v (.int .i64 n4) .no)] [[]] K = S_farranged_3 N vs1 vs2 n3 t vs0 n4 (fun a0 a1 => K .ret [(.v (.sl 62 a0) .no), (.v (.bool a1) .no)] [[]]) (fun a0 => K (.exit 0) [(.v (.sl 62 a0) .no), .any] [[]])
  | 0, vs0, n4 => rfl
  | t + 1, vs0, n4 => (F_farranged_3_ok N vs1 vs2 n3 vs0 n4 _ K).trans (congrArg (fun L => F_farranged_3 N vs1 vs2 n3 L (fun a0 a1 => K .ret [(.v (.sl 62 a0) .no), (.v (.bool a1) .no)] [[]]) (fun a0 => K (.exit 0) [(.v (.sl 62 a0) .no), .any] [[]]) vs0 n4) (funext fun vs0 => funext fun n4 => S_farranged_3_ok N vs1 vs2 n3 K t vs0 n4))
theorem s_farranged_ok (N : Nat) (x0 : List V) : bodyK (cx_farranged N) Try.f49 [.v (.sl 62 x0) .no] [] r_farranged = s_farranged N x0 := by
  kernel_rfl
theorem go_farranged : Goes Try.prog 49 := goes_of Try.func49 (by kernel_rfl) (c := bodyOf Try.f49) (by kernel_rfl)
theorem eo_farranged (s : List V → Option (Bool)) (hs : ∀ (x0 : List V) (r0 : Bool), s x0 = some r0 → PureRet Try.prog T 49 [.v (.sl 62 x0) .no] [.v (.bool r0) .no]) : EntOK Try.prog T ⟨49, e_farranged s⟩ := by
  refine ⟨go_farranged, fun R ds K r h => ?_, fun R ds K => ?_⟩
  · simp only [e_farranged] at h
    split at h
    · obtain ⟨r0, h1, h2⟩ := bnd1_some h
      exact ⟨_, h2, hs _ _ h1⟩
    · cases h
  · simp only [e_farranged]
    split
    · rw [bnd1_b]; rfl
    · rfl
theorem co_farranged (N : Nat) : CxOK Try.prog (cx_farranged N) :=
  cxOK_of2 (es := [⟨74, e_forder (s_forder N)⟩, ⟨75, e_flengthFits (s_flengthFits N)⟩]) (me := []) (ms := []) T_ok ⟨eo_forder _ (p_forder N), eo_flengthFits _ (p_flengthFits N), trivial⟩ trivial trivial rfl (fun _ _ _ _ => rfl) (fun _ _ _ _ _ _ => rfl) rfl
theorem lk_farranged_3 (N : Nat) : LoopOK (cx_farranged N) 44 (loopN Try.f49 0) := by
  refine loopOK_of (rid := 3) (by kernel_rfl) rfl rfl fun R ds m K r h => ?_
  have h : l_farranged_3 N ds m K = some r := h
  unfold l_farranged_3 at h
  split at h
  · exact ⟨N, Eq.trans (S_farranged_3_ok ..) h⟩
  · cases h
theorem lo_farranged (N : Nat) : LoopsOK (cx_farranged N) Try.f49.ntmps (bodyOf Try.f49) :=
  loopsOK_of (k := 1) (by kernel_rfl) ⟨trivial, lk_farranged_3 N⟩
theorem p_farranged (N : Nat) (x0 : List V) (r0 : Bool) (h : s_farranged N x0 = some r0) : PureRet Try.prog T 49 [.v (.sl 62 x0) .no] [.v (.bool r0) .no] :=
  pure_of (cx := cx_farranged N) (by kernel_rfl) (co_farranged N) Try.func49 (by kernel_rfl) (by kernel_rfl) (lo_farranged N) rfl rfl rfl (rf := r_farranged) ((s_farranged_ok N x0).trans h) (fun rs' m h => by
    unfold r_farranged at h
    split at h
    · cases h; exact ⟨rfl, rfl⟩
    · cases h)
noncomputable def e_fget {R : Type} (s : List UInt8 → Option (Int)) (ds : List D) (K : List D → Option R) : Option R :=
  match ds with
  | [.v (.bytes x0) .no] => bnd1 (s x0) fun r0 => K [.v (.int .i64 r0) .no]
  | _ => none
noncomputable def r_fget (rs : List D) (_ : Mem) : Option (Int) :=
  match rs with
  | [.v (.int .i64 r0) _] => some (r0)
  | _ => none
noncomputable def s_fget (N : Nat) (x0 : List UInt8) : Option (Int) := bnd2 (s_Get N x0) fun n0 n1 => some n0
noncomputable def cx_fget (N : Nat) : Cx := { T := T, isPure := tabP [⟨76, e_Get (s_Get N)⟩], pureK := fun g ds K => tabK [⟨76, e_Get (s_Get N)⟩] g ds K, memK := fun g dst ds m K => tabMK [] g dst ds m K, meth := tabM [], keep := fun _ => [], keepX := fun _ => [], loopT := fun _ _ _ _ => none, jumps := 9 }
theorem s_fget_ok (N : Nat) (x0 : List UInt8) : bodyK (cx_fget N) Try.f50 [.v (.bytes x0) .no] [] r_fget = s_fget N x0 := by
  kernel_rfl
theorem go_fget : Goes Try.prog 50 := goes_of Try.func50 (by kernel_rfl) (c := bodyOf Try.f50) (by kernel_rfl)
theorem eo_fget (s : List UInt8 → Option (Int)) (hs : ∀ (x0 : List UInt8) (r0 : Int), s x0 = some r0 → PureRet Try.prog T 50 [.v (.bytes x0) .no] [.v (.int .i64 r0) .no]) : EntOK Try.prog T ⟨50, e_fget s⟩ := by
  refine ⟨go_fget, fun R ds K r h => ?_, fun R ds K => ?_⟩
  · simp only [e_fget] at h
    split at h
    · obtain ⟨r0, h1, h2⟩ := bnd1_some h
      exact ⟨_, h2, hs _ _ h1⟩
    · cases h
  · simp only [e_fget]
    split
    · rw [bnd1_b]; rfl
    · rfl
theorem co_fget (N : Nat) : CxOK Try.prog (cx_fget N) :=
  cxOK_of2 (es := [⟨76, e_Get (s_Get N)⟩]) (me := []) (ms := []) T_ok ⟨eo_Get _ (p_Get N), trivial⟩ trivial trivial rfl (fun _ _ _ _ => rfl) (fun _ _ _ _ _ _ => rfl) rfl
theorem lo_fget (N : Nat) : LoopsOK (cx_fget N) Try.f50.ntmps (bodyOf Try.f50) :=
  loopsOK_of (k := 0) (by kernel_rfl) trivial
theorem p_fget (N : Nat) (x0 : List UInt8) (r0 : Int) (h : s_fget N x0 = some r0) : PureRet Try.prog T 50 [.v (.bytes x0) .no] [.v (.int .i64 r0) .no] :=
  pure_of (cx := cx_fget N) (by kernel_rfl) (co_fget N) Try.func50 (by kernel_rfl) (by kernel_rfl) (lo_fget N) rfl rfl rfl (rf := r_fget) ((s_fget_ok N x0).trans h) (fun rs' m h => by
    unfold r_fget at h
    split at h
    · cases h; exact ⟨rfl, rfl⟩
    · cases h)
noncomputable def e_fNext {R : Type} (s : Int → Int → Option (Int × Int)) (ds : List D) (K : List D → Option R) : Option R :=
  match ds with
  | [.v (.int .i64 x0) .no, .v (.int .i64 x1) .no] => bnd2 (s x0 x1) fun r0 r1 => K [.v (.int .i64 r0) .no, .v (.int .i64 r1) .no]
  | _ => none
noncomputable def r_fNext (rs : List D) (_ : Mem) : Option (Int × Int) :=
  match rs with
  | [.v (.int .i64 r0) _, .v (.int .i64 r1) _] => some (r0, r1)
  | _ => none
noncomputable def s_fNext (N : Nat) (x0 : Int) (x1 : Int) : Option (Int × Int) := br (decide (x1 = 32)) (bnd1 (s_fisState N x0) fun b0 => br (!b0) (some (0, 2)) (br (decide (x0 = 1)) (some (0, 14)) (br (decide (x0 = 3)) (some (0, 14)) (some (1, 0))))) (br (decide (x1 = 64)) (bnd1 (s_fisState N x0) fun b1 => br (!b1) (some (0, 2)) (br (decide (x0 = 2)) (some (0, 14)) (br (decide (x0 = 3)) (some (0, 14)) (some (2, 0))))) (br (decide (x1 = 128)) (bnd1 (s_fisState N x0) fun b2 => br (!b2) (some (0, 2)) (br (decide (x0 = 3)) (some (0, 14)) (br (decide (x0 = 3)) (some (0, 14)) (some (3, 0))))) (some (0, 1))))
noncomputable def cx_fNext (N : Nat) : Cx := { T := T, isPure := tabP [⟨29, e_fisState (s_fisState N)⟩], pureK := fun g ds K => tabK [⟨29, e_fisState (s_fisState N)⟩] g ds K, memK := fun g dst ds m K => tabMK [] g dst ds m K, meth := tabM [], keep := fun _ => [], keepX := fun _ => [], loopT := fun _ _ _ _ => none, jumps := 9 }
theorem s_fNext_ok (N : Nat) (x0 : Int) (x1 : Int) : bodyK (cx_fNext N) Try.f19 [.v (.int .i64 x0) .no, .v (.int .i64 x1) .no] [] r_fNext = s_fNext N x0 x1 := by
  kernel_rfl
theorem go_fNext : Goes Try.prog 19 := goes_of Try.func19 (by kernel_rfl) (c := bodyOf Try.f19) (by kernel_rfl)
theorem eo_fNext (s : Int → Int → Option (Int × Int)) (hs : ∀ (x0 : Int) (x1 : Int) (r0 : Int) (r1 : Int), s x0 x1 = some (r0, r1) → PureRet Try.prog T 19 [.v (.int .i64 x0) .no, .v (.int .i64 x1) .no] [.v (.int .i64 r0) .no, .v (.int .i64 r1) .no]) : EntOK Try.prog T ⟨19, e_fNext s⟩ := by
  refine ⟨go_fNext, fun R ds K r h => ?_, fun R ds K => ?_⟩
  · simp only [e_fNext] at h
    split at h
    · obtain ⟨r0, r1, h1, h2⟩ := bnd2_some h
      exact ⟨_, h2, hs _ _ _ _ h1⟩
    · cases h
  · simp only [e_fNext]
    split
    · rw [bnd2_b]; rfl
    · rfl
theorem co_fNext (N : Nat) : CxOK Try.prog (cx_fNext N) :=
  cxOK_of2 (es := [⟨29, e_fisState (s_fisState N)⟩]) (me := []) (ms := []) T_ok ⟨eo_fisState _ (p_fisState N), trivial⟩ trivial trivial rfl (fun _ _ _ _ => rfl) (fun _ _ _ _ _ _ => rfl) rfl
theorem lo_fNext (N : Nat) : LoopsOK (cx_fNext N) Try.f19.ntmps (bodyOf Try.f19) :=
  loopsOK_of (k := 0) (by kernel_rfl) trivial
theorem p_fNext (N : Nat) (x0 : Int) (x1 : Int) (r0 : Int) (r1 : Int) (h : s_fNext N x0 x1 = some (r0, r1)) : PureRet Try.prog T 19 [.v (.int .i64 x0) .no, .v (.int .i64 x1) .no] [.v (.int .i64 r0) .no, .v (.int .i64 r1) .no] :=
  pure_of (cx := cx_fNext N) (by kernel_rfl) (co_fNext N) Try.func19 (by kernel_rfl) (by kernel_rfl) (lo_fNext N) rfl rfl rfl (rf := r_fNext) ((s_fNext_ok N x0 x1).trans h) (fun rs' m h => by
    unfold r_fNext at h
    split at h
    · cases h; exact ⟨rfl, rfl⟩
    · cases h)
noncomputable def e_fBytes {R : Type} (s : Int → Int → List UInt8 → Int → Int → Int → Int → Int → List V → Option (Int)) (ds : List D) (K : List D → Option R) : Option R :=
  match ds with
  | [.agg [.v (.int .i64 x0) .no, .v (.int .i64 x1) .no, .v (.bytes x2) .no, .v (.int .i64 x3) .no, .v (.int .i64 x4) .no, .v (.int .i64 x5) .no, .v (.int .i64 x6) .no, .v (.int .i64 x7) .no, .v (.sl 48 x8) .no]] => bnd1 (s x0 x1 x2 x3 x4 x5 x6 x7 x8) fun r0 => K [.v (.int .i64 r0) .no]
  | _ => none
noncomputable def r_fBytes (rs : List D) (_ : Mem) : Option (Int) :=
  match rs with
  | [.v (.int .i64 r0) _] => some (r0)
  | _ => none
noncomputable def s_fBytes (N : Nat) (x0 : Int) (x1 : Int) (x2 : List UInt8) (x3 : Int) (x4 : Int) (x5 : Int) (x6 : Int) (x7 : Int) (x8 : List V) : Option (Int) := bnd1 (s_fCheck N x0 x1 x2 x3 x4 x5 x6 x7 x8) fun n0 => br (!decide (n0 = 0)) (some 0) (some (IntKind.i64.wrap (x4 + IntKind.i64.wrap (x5 * x6))))
noncomputable def cx_fBytes (N : Nat) : Cx := { T := T, isPure := tabP [⟨11, e_fCheck (s_fCheck N)⟩], pureK := fun g ds K => tabK [⟨11, e_fCheck (s_fCheck N)⟩] g ds K, memK := fun g dst ds m K => tabMK [] g dst ds m K, meth := tabM [], keep := fun _ => [], keepX := fun _ => [], loopT := fun _ _ _ _ => none, jumps := 9 }
theorem s_fBytes_ok (N : Nat) (x0 : Int) (x1 : Int) (x2 : List UInt8) (x3 : Int) (x4 : Int) (x5 : Int) (x6 : Int) (x7 : Int) (x8 : List V) : bodyK (cx_fBytes N) Try.f17 [.agg [.v (.int .i64 x0) .no, .v (.int .i64 x1) .no, .v (.bytes x2) .no, .v (.int .i64 x3) .no, .v (.int .i64 x4) .no, .v (.int .i64 x5) .no, .v (.int .i64 x6) .no, .v (.int .i64 x7) .no, .v (.sl 48 x8) .no]] [] r_fBytes = s_fBytes N x0 x1 x2 x3 x4 x5 x6 x7 x8 := by
  kernel_rfl
theorem go_fBytes : Goes Try.prog 17 := goes_of Try.func17 (by kernel_rfl) (c := bodyOf Try.f17) (by kernel_rfl)
theorem eo_fBytes (s : Int → Int → List UInt8 → Int → Int → Int → Int → Int → List V → Option (Int)) (hs : ∀ (x0 : Int) (x1 : Int) (x2 : List UInt8) (x3 : Int) (x4 : Int) (x5 : Int) (x6 : Int) (x7 : Int) (x8 : List V) (r0 : Int), s x0 x1 x2 x3 x4 x5 x6 x7 x8 = some r0 → PureRet Try.prog T 17 [.agg [.v (.int .i64 x0) .no, .v (.int .i64 x1) .no, .v (.bytes x2) .no, .v (.int .i64 x3) .no, .v (.int .i64 x4) .no, .v (.int .i64 x5) .no, .v (.int .i64 x6) .no, .v (.int .i64 x7) .no, .v (.sl 48 x8) .no]] [.v (.int .i64 r0) .no]) : EntOK Try.prog T ⟨17, e_fBytes s⟩ := by
  refine ⟨go_fBytes, fun R ds K r h => ?_, fun R ds K => ?_⟩
  · simp only [e_fBytes] at h
    split at h
    · obtain ⟨r0, h1, h2⟩ := bnd1_some h
      exact ⟨_, h2, hs _ _ _ _ _ _ _ _ _ _ h1⟩
    · cases h
  · simp only [e_fBytes]
    split
    · rw [bnd1_b]; rfl
    · rfl
theorem co_fBytes (N : Nat) : CxOK Try.prog (cx_fBytes N) :=
  cxOK_of2 (es := [⟨11, e_fCheck (s_fCheck N)⟩]) (me := []) (ms := []) T_ok ⟨eo_fCheck _ (p_fCheck N), trivial⟩ trivial trivial rfl (fun _ _ _ _ => rfl) (fun _ _ _ _ _ _ => rfl) rfl
theorem lo_fBytes (N : Nat) : LoopsOK (cx_fBytes N) Try.f17.ntmps (bodyOf Try.f17) :=
  loopsOK_of (k := 0) (by kernel_rfl) trivial
theorem p_fBytes (N : Nat) (x0 : Int) (x1 : Int) (x2 : List UInt8) (x3 : Int) (x4 : Int) (x5 : Int) (x6 : Int) (x7 : Int) (x8 : List V) (r0 : Int) (h : s_fBytes N x0 x1 x2 x3 x4 x5 x6 x7 x8 = some r0) : PureRet Try.prog T 17 [.agg [.v (.int .i64 x0) .no, .v (.int .i64 x1) .no, .v (.bytes x2) .no, .v (.int .i64 x3) .no, .v (.int .i64 x4) .no, .v (.int .i64 x5) .no, .v (.int .i64 x6) .no, .v (.int .i64 x7) .no, .v (.sl 48 x8) .no]] [.v (.int .i64 r0) .no] :=
  pure_of (cx := cx_fBytes N) (by kernel_rfl) (co_fBytes N) Try.func17 (by kernel_rfl) (by kernel_rfl) (lo_fBytes N) rfl rfl rfl (rf := r_fBytes) ((s_fBytes_ok N x0 x1 x2 x3 x4 x5 x6 x7 x8).trans h) (fun rs' m h => by
    unfold r_fBytes at h
    split at h
    · cases h; exact ⟨rfl, rfl⟩
    · cases h)
noncomputable def e_hrecords {R : Type} (s : Int → Option (Bool)) (ds : List D) (K : List D → Option R) : Option R :=
  match ds with
  | [.v (.int .i64 x0) .no] => bnd1 (s x0) fun r0 => K [.v (.bool r0) .no]
  | _ => none
noncomputable def r_hrecords (rs : List D) (_ : Mem) : Option (Bool) :=
  match rs with
  | [.v (.bool r0) _] => some (r0)
  | _ => none
noncomputable def s_hrecords (N : Nat) (x0 : Int) : Option (Bool) := br (decide (x0 = 3)) (some true) (br (decide (x0 = 4)) (some true) (some (decide (x0 = 5))))
noncomputable def cx_hrecords (N : Nat) : Cx := { T := T, isPure := tabP [], pureK := fun g ds K => tabK [] g ds K, memK := fun g dst ds m K => tabMK [] g dst ds m K, meth := tabM [], keep := fun _ => [], keepX := fun _ => [], loopT := fun _ _ _ _ => none, jumps := 9 }
theorem s_hrecords_ok (N : Nat) (x0 : Int) : bodyK (cx_hrecords N) Try.f57 [.v (.int .i64 x0) .no] [] r_hrecords = s_hrecords N x0 := by
  kernel_rfl
theorem go_hrecords : Goes Try.prog 57 := goes_of Try.func57 (by kernel_rfl) (c := bodyOf Try.f57) (by kernel_rfl)
theorem eo_hrecords (s : Int → Option (Bool)) (hs : ∀ (x0 : Int) (r0 : Bool), s x0 = some r0 → PureRet Try.prog T 57 [.v (.int .i64 x0) .no] [.v (.bool r0) .no]) : EntOK Try.prog T ⟨57, e_hrecords s⟩ := by
  refine ⟨go_hrecords, fun R ds K r h => ?_, fun R ds K => ?_⟩
  · simp only [e_hrecords] at h
    split at h
    · obtain ⟨r0, h1, h2⟩ := bnd1_some h
      exact ⟨_, h2, hs _ _ h1⟩
    · cases h
  · simp only [e_hrecords]
    split
    · rw [bnd1_b]; rfl
    · rfl
theorem co_hrecords (N : Nat) : CxOK Try.prog (cx_hrecords N) :=
  cxOK_of2 (es := []) (me := []) (ms := []) T_ok trivial trivial trivial rfl (fun _ _ _ _ => rfl) (fun _ _ _ _ _ _ => rfl) rfl
theorem lo_hrecords (N : Nat) : LoopsOK (cx_hrecords N) Try.f57.ntmps (bodyOf Try.f57) :=
  loopsOK_of (k := 0) (by kernel_rfl) trivial
theorem p_hrecords (N : Nat) (x0 : Int) (r0 : Bool) (h : s_hrecords N x0 = some r0) : PureRet Try.prog T 57 [.v (.int .i64 x0) .no] [.v (.bool r0) .no] :=
  pure_of (cx := cx_hrecords N) (by kernel_rfl) (co_hrecords N) Try.func57 (by kernel_rfl) (by kernel_rfl) (lo_hrecords N) rfl rfl rfl (rf := r_hrecords) ((s_hrecords_ok N x0).trans h) (fun rs' m h => by
    unfold r_hrecords at h
    split at h
    · cases h; exact ⟨rfl, rfl⟩
    · cases h)
noncomputable def e_hnumber {R : Type} (s : Int → Bool → Int → Option (Int)) (ds : List D) (K : List D → Option R) : Option R :=
  match ds with
  | [.v (.int .i64 x0) .no, .v (.bool x1) .no, .v (.int .i64 x2) .no] => bnd1 (s x0 x1 x2) fun r0 => K [.v (.int .i64 r0) .no]
  | _ => none
noncomputable def r_hnumber (rs : List D) (_ : Mem) : Option (Int) :=
  match rs with
  | [.v (.int .i64 r0) _] => some (r0)
  | _ => none
noncomputable def s_hnumber (N : Nat) (x0 : Int) (x1 : Bool) (x2 : Int) : Option (Int) := br (!x1) (br (!decide (x0 = 0)) (some 4) (some 0)) (br (decide (x0 < 1)) (some 2) (br (decide (x2 < x0)) (some 2) (some 0)))
noncomputable def cx_hnumber (N : Nat) : Cx := { T := T, isPure := tabP [], pureK := fun g ds K => tabK [] g ds K, memK := fun g dst ds m K => tabMK [] g dst ds m K, meth := tabM [], keep := fun _ => [], keepX := fun _ => [], loopT := fun _ _ _ _ => none, jumps := 9 }
theorem s_hnumber_ok (N : Nat) (x0 : Int) (x1 : Bool) (x2 : Int) : bodyK (cx_hnumber N) Try.f56 [.v (.int .i64 x0) .no, .v (.bool x1) .no, .v (.int .i64 x2) .no] [] r_hnumber = s_hnumber N x0 x1 x2 := by
  kernel_rfl
theorem go_hnumber : Goes Try.prog 56 := goes_of Try.func56 (by kernel_rfl) (c := bodyOf Try.f56) (by kernel_rfl)
theorem eo_hnumber (s : Int → Bool → Int → Option (Int)) (hs : ∀ (x0 : Int) (x1 : Bool) (x2 : Int) (r0 : Int), s x0 x1 x2 = some r0 → PureRet Try.prog T 56 [.v (.int .i64 x0) .no, .v (.bool x1) .no, .v (.int .i64 x2) .no] [.v (.int .i64 r0) .no]) : EntOK Try.prog T ⟨56, e_hnumber s⟩ := by
  refine ⟨go_hnumber, fun R ds K r h => ?_, fun R ds K => ?_⟩
  · simp only [e_hnumber] at h
    split at h
    · obtain ⟨r0, h1, h2⟩ := bnd1_some h
      exact ⟨_, h2, hs _ _ _ _ h1⟩
    · cases h
  · simp only [e_hnumber]
    split
    · rw [bnd1_b]; rfl
    · rfl
theorem co_hnumber (N : Nat) : CxOK Try.prog (cx_hnumber N) :=
  cxOK_of2 (es := []) (me := []) (ms := []) T_ok trivial trivial trivial rfl (fun _ _ _ _ => rfl) (fun _ _ _ _ _ _ => rfl) rfl
theorem lo_hnumber (N : Nat) : LoopsOK (cx_hnumber N) Try.f56.ntmps (bodyOf Try.f56) :=
  loopsOK_of (k := 0) (by kernel_rfl) trivial
theorem p_hnumber (N : Nat) (x0 : Int) (x1 : Bool) (x2 : Int) (r0 : Int) (h : s_hnumber N x0 x1 x2 = some r0) : PureRet Try.prog T 56 [.v (.int .i64 x0) .no, .v (.bool x1) .no, .v (.int .i64 x2) .no] [.v (.int .i64 r0) .no] :=
  pure_of (cx := cx_hnumber N) (by kernel_rfl) (co_hnumber N) Try.func56 (by kernel_rfl) (by kernel_rfl) (lo_hnumber N) rfl rfl rfl (rf := r_hnumber) ((s_hnumber_ok N x0 x1 x2).trans h) (fun rs' m h => by
    unfold r_hnumber at h
    split at h
    · cases h; exact ⟨rfl, rfl⟩
    · cases h)
noncomputable def e_hsizes {R : Type} (s : Int → Int → List UInt8 → Int → Int → Int → Int → Int → List V → Option (Int)) (ds : List D) (K : List D → Option R) : Option R :=
  match ds with
  | [.agg [.v (.int .i64 x0) .no, .v (.int .i64 x1) .no, .v (.bytes x2) .no, .v (.int .i64 x3) .no, .v (.int .i64 x4) .no, .v (.int .i64 x5) .no, .v (.int .i64 x6) .no, .v (.int .i64 x7) .no, .v (.sl 48 x8) .no]] => bnd1 (s x0 x1 x2 x3 x4 x5 x6 x7 x8) fun r0 => K [.v (.int .i64 r0) .no]
  | _ => none
noncomputable def r_hsizes (rs : List D) (_ : Mem) : Option (Int) :=
  match rs with
  | [.v (.int .i64 r0) _] => some (r0)
  | _ => none
noncomputable def s_hsizes (N : Nat) (x0 : Int) (x1 : Int) (x2 : List UInt8) (x3 : Int) (x4 : Int) (x5 : Int) (x6 : Int) (x7 : Int) (x8 : List V) : Option (Int) := bnd1 (s_hnumber N x4 (decide (x1 = 2)) 1024) fun n0 => br (decide (n0 = 0)) (bnd1 (s_hrecords N x1) fun b1 => bnd1 (s_hnumber N x5 b1 254) fun n2 => br (decide (n2 = 0)) (bnd1 (s_hrecords N x1) fun b3 => bnd1 (s_hnumber N x6 b3 254) fun n4 => br (decide (n4 = 0)) (br (decide (1024 < IntKind.i64.wrap (x5 * x6))) (some 3) (some n4)) (some n4)) (br (decide (n2 = 0)) (br (decide (1024 < IntKind.i64.wrap (x5 * x6))) (some 3) (some n2)) (some n2))) (br (decide (n0 = 0)) (bnd1 (s_hrecords N x1) fun b5 => bnd1 (s_hnumber N x6 b5 254) fun n6 => br (decide (n6 = 0)) (br (decide (1024 < IntKind.i64.wrap (x5 * x6))) (some 3) (some n6)) (some n6)) (br (decide (n0 = 0)) (br (decide (1024 < IntKind.i64.wrap (x5 * x6))) (some 3) (some n0)) (some n0)))
noncomputable def cx_hsizes (N : Nat) : Cx := { T := T, isPure := tabP [⟨56, e_hnumber (s_hnumber N)⟩, ⟨57, e_hrecords (s_hrecords N)⟩], pureK := fun g ds K => tabK [⟨56, e_hnumber (s_hnumber N)⟩, ⟨57, e_hrecords (s_hrecords N)⟩] g ds K, memK := fun g dst ds m K => tabMK [] g dst ds m K, meth := tabM [], keep := fun _ => [], keepX := fun _ => [], loopT := fun _ _ _ _ => none, jumps := 9 }
theorem s_hsizes_ok (N : Nat) (x0 : Int) (x1 : Int) (x2 : List UInt8) (x3 : Int) (x4 : Int) (x5 : Int) (x6 : Int) (x7 : Int) (x8 : List V) : bodyK (cx_hsizes N) Try.f31 [.agg [.v (.int .i64 x0) .no, .v (.int .i64 x1) .no, .v (.bytes x2) .no, .v (.int .i64 x3) .no, .v (.int .i64 x4) .no, .v (.int .i64 x5) .no, .v (.int .i64 x6) .no, .v (.int .i64 x7) .no, .v (.sl 48 x8) .no]] [] r_hsizes = s_hsizes N x0 x1 x2 x3 x4 x5 x6 x7 x8 := by
  kernel_rfl
theorem go_hsizes : Goes Try.prog 31 := goes_of Try.func31 (by kernel_rfl) (c := bodyOf Try.f31) (by kernel_rfl)
theorem eo_hsizes (s : Int → Int → List UInt8 → Int → Int → Int → Int → Int → List V → Option (Int)) (hs : ∀ (x0 : Int) (x1 : Int) (x2 : List UInt8) (x3 : Int) (x4 : Int) (x5 : Int) (x6 : Int) (x7 : Int) (x8 : List V) (r0 : Int), s x0 x1 x2 x3 x4 x5 x6 x7 x8 = some r0 → PureRet Try.prog T 31 [.agg [.v (.int .i64 x0) .no, .v (.int .i64 x1) .no, .v (.bytes x2) .no, .v (.int .i64 x3) .no, .v (.int .i64 x4) .no, .v (.int .i64 x5) .no, .v (.int .i64 x6) .no, .v (.int .i64 x7) .no, .v (.sl 48 x8) .no]] [.v (.int .i64 r0) .no]) : EntOK Try.prog T ⟨31, e_hsizes s⟩ := by
  refine ⟨go_hsizes, fun R ds K r h => ?_, fun R ds K => ?_⟩
  · simp only [e_hsizes] at h
    split at h
    · obtain ⟨r0, h1, h2⟩ := bnd1_some h
      exact ⟨_, h2, hs _ _ _ _ _ _ _ _ _ _ h1⟩
    · cases h
  · simp only [e_hsizes]
    split
    · rw [bnd1_b]; rfl
    · rfl
theorem co_hsizes (N : Nat) : CxOK Try.prog (cx_hsizes N) :=
  cxOK_of2 (es := [⟨56, e_hnumber (s_hnumber N)⟩, ⟨57, e_hrecords (s_hrecords N)⟩]) (me := []) (ms := []) T_ok ⟨eo_hnumber _ (p_hnumber N), eo_hrecords _ (p_hrecords N), trivial⟩ trivial trivial rfl (fun _ _ _ _ => rfl) (fun _ _ _ _ _ _ => rfl) rfl
theorem lo_hsizes (N : Nat) : LoopsOK (cx_hsizes N) Try.f31.ntmps (bodyOf Try.f31) :=
  loopsOK_of (k := 0) (by kernel_rfl) trivial
theorem p_hsizes (N : Nat) (x0 : Int) (x1 : Int) (x2 : List UInt8) (x3 : Int) (x4 : Int) (x5 : Int) (x6 : Int) (x7 : Int) (x8 : List V) (r0 : Int) (h : s_hsizes N x0 x1 x2 x3 x4 x5 x6 x7 x8 = some r0) : PureRet Try.prog T 31 [.agg [.v (.int .i64 x0) .no, .v (.int .i64 x1) .no, .v (.bytes x2) .no, .v (.int .i64 x3) .no, .v (.int .i64 x4) .no, .v (.int .i64 x5) .no, .v (.int .i64 x6) .no, .v (.int .i64 x7) .no, .v (.sl 48 x8) .no]] [.v (.int .i64 r0) .no] :=
  pure_of (cx := cx_hsizes N) (by kernel_rfl) (co_hsizes N) Try.func31 (by kernel_rfl) (by kernel_rfl) (lo_hsizes N) rfl rfl rfl (rf := r_hsizes) ((s_hsizes_ok N x0 x1 x2 x3 x4 x5 x6 x7 x8).trans h) (fun rs' m h => by
    unfold r_hsizes at h
    split at h
    · cases h; exact ⟨rfl, rfl⟩
    · cases h)
noncomputable def e_hCheck {R : Type} (s : Int → Int → List UInt8 → Int → Int → Int → Int → Int → List V → Option (Int)) (ds : List D) (K : List D → Option R) : Option R :=
  match ds with
  | [.agg [.v (.int .i64 x0) .no, .v (.int .i64 x1) .no, .v (.bytes x2) .no, .v (.int .i64 x3) .no, .v (.int .i64 x4) .no, .v (.int .i64 x5) .no, .v (.int .i64 x6) .no, .v (.int .i64 x7) .no, .v (.sl 48 x8) .no]] => bnd1 (s x0 x1 x2 x3 x4 x5 x6 x7 x8) fun r0 => K [.v (.int .i64 r0) .no]
  | _ => none
noncomputable def r_hCheck (rs : List D) (_ : Mem) : Option (Int) :=
  match rs with
  | [.v (.int .i64 r0) _] => some (r0)
  | _ => none
noncomputable def s_hCheck (N : Nat) (x0 : Int) (x1 : Int) (x2 : List UInt8) (x3 : Int) (x4 : Int) (x5 : Int) (x6 : Int) (x7 : Int) (x8 : List V) : Option (Int) := br (decide (x1 < 1)) (some 1) (br (decide (5 < x1)) (some 1) (br (decide (x0 < 1)) (some 2) (br (decide (65534 < x0)) (some 2) (br (decide (x0 = 16383)) (some 2) (br (decide (16 < (↑x2.length : Int))) (some 3) (br (decide (0 < (↑x2.length : Int))) (br (!decide (x1 = 1)) (some 4) (br (decide (x3 < 0)) (some 2) (br (decide (30 < x3)) (some 2) (br (!decide (x3 = 0)) (br (decide (x1 = 1)) (some 4) (bnd1 (s_hsizes N x0 x1 x2 x3 x4 x5 x6 x7 x8) fun n0 => br (!decide (n0 = 0)) (some n0) (br (decide (x7 < 1)) (some 2) (br (decide (3 < x7)) (some 2) (bnd1 (s_qCheckRules N x8) fun n1 => some n1))))) (bnd1 (s_hsizes N x0 x1 x2 x3 x4 x5 x6 x7 x8) fun n2 => br (!decide (n2 = 0)) (some n2) (br (decide (x7 < 1)) (some 2) (br (decide (3 < x7)) (some 2) (bnd1 (s_qCheckRules N x8) fun n3 => some n3)))))))) (br (decide (x3 < 0)) (some 2) (br (decide (30 < x3)) (some 2) (br (!decide (x3 = 0)) (br (decide (x1 = 1)) (some 4) (bnd1 (s_hsizes N x0 x1 x2 x3 x4 x5 x6 x7 x8) fun n4 => br (!decide (n4 = 0)) (some n4) (br (decide (x7 < 1)) (some 2) (br (decide (3 < x7)) (some 2) (bnd1 (s_qCheckRules N x8) fun n5 => some n5))))) (bnd1 (s_hsizes N x0 x1 x2 x3 x4 x5 x6 x7 x8) fun n6 => br (!decide (n6 = 0)) (some n6) (br (decide (x7 < 1)) (some 2) (br (decide (3 < x7)) (some 2) (bnd1 (s_qCheckRules N x8) fun n7 => some n7)))))))))))))
noncomputable def cx_hCheck (N : Nat) : Cx := { T := T, isPure := tabP [⟨31, e_hsizes (s_hsizes N)⟩, ⟨32, e_qCheckRules (s_qCheckRules N)⟩], pureK := fun g ds K => tabK [⟨31, e_hsizes (s_hsizes N)⟩, ⟨32, e_qCheckRules (s_qCheckRules N)⟩] g ds K, memK := fun g dst ds m K => tabMK [] g dst ds m K, meth := tabM [], keep := fun _ => [], keepX := fun _ => [], loopT := fun _ _ _ _ => none, jumps := 9 }
theorem s_hCheck_ok (N : Nat) (x0 : Int) (x1 : Int) (x2 : List UInt8) (x3 : Int) (x4 : Int) (x5 : Int) (x6 : Int) (x7 : Int) (x8 : List V) : bodyK (cx_hCheck N) Try.f12 [.agg [.v (.int .i64 x0) .no, .v (.int .i64 x1) .no, .v (.bytes x2) .no, .v (.int .i64 x3) .no, .v (.int .i64 x4) .no, .v (.int .i64 x5) .no, .v (.int .i64 x6) .no, .v (.int .i64 x7) .no, .v (.sl 48 x8) .no]] [] r_hCheck = s_hCheck N x0 x1 x2 x3 x4 x5 x6 x7 x8 := by
  kernel_rfl
theorem go_hCheck : Goes Try.prog 12 := goes_of Try.func12 (by kernel_rfl) (c := bodyOf Try.f12) (by kernel_rfl)
theorem eo_hCheck (s : Int → Int → List UInt8 → Int → Int → Int → Int → Int → List V → Option (Int)) (hs : ∀ (x0 : Int) (x1 : Int) (x2 : List UInt8) (x3 : Int) (x4 : Int) (x5 : Int) (x6 : Int) (x7 : Int) (x8 : List V) (r0 : Int), s x0 x1 x2 x3 x4 x5 x6 x7 x8 = some r0 → PureRet Try.prog T 12 [.agg [.v (.int .i64 x0) .no, .v (.int .i64 x1) .no, .v (.bytes x2) .no, .v (.int .i64 x3) .no, .v (.int .i64 x4) .no, .v (.int .i64 x5) .no, .v (.int .i64 x6) .no, .v (.int .i64 x7) .no, .v (.sl 48 x8) .no]] [.v (.int .i64 r0) .no]) : EntOK Try.prog T ⟨12, e_hCheck s⟩ := by
  refine ⟨go_hCheck, fun R ds K r h => ?_, fun R ds K => ?_⟩
  · simp only [e_hCheck] at h
    split at h
    · obtain ⟨r0, h1, h2⟩ := bnd1_some h
      exact ⟨_, h2, hs _ _ _ _ _ _ _ _ _ _ h1⟩
    · cases h
  · simp only [e_hCheck]
    split
    · rw [bnd1_b]; rfl
    · rfl
theorem co_hCheck (N : Nat) : CxOK Try.prog (cx_hCheck N) :=
  cxOK_of2 (es := [⟨31, e_hsizes (s_hsizes N)⟩, ⟨32, e_qCheckRules (s_qCheckRules N)⟩]) (me := []) (ms := []) T_ok ⟨eo_hsizes _ (p_hsizes N), eo_qCheckRules _ (p_qCheckRules N), trivial⟩ trivial trivial rfl (fun _ _ _ _ => rfl) (fun _ _ _ _ _ _ => rfl) rfl
theorem lo_hCheck (N : Nat) : LoopsOK (cx_hCheck N) Try.f12.ntmps (bodyOf Try.f12) :=
  loopsOK_of (k := 0) (by kernel_rfl) trivial
theorem p_hCheck (N : Nat) (x0 : Int) (x1 : Int) (x2 : List UInt8) (x3 : Int) (x4 : Int) (x5 : Int) (x6 : Int) (x7 : Int) (x8 : List V) (r0 : Int) (h : s_hCheck N x0 x1 x2 x3 x4 x5 x6 x7 x8 = some r0) : PureRet Try.prog T 12 [.agg [.v (.int .i64 x0) .no, .v (.int .i64 x1) .no, .v (.bytes x2) .no, .v (.int .i64 x3) .no, .v (.int .i64 x4) .no, .v (.int .i64 x5) .no, .v (.int .i64 x6) .no, .v (.int .i64 x7) .no, .v (.sl 48 x8) .no]] [.v (.int .i64 r0) .no] :=
  pure_of (cx := cx_hCheck N) (by kernel_rfl) (co_hCheck N) Try.func12 (by kernel_rfl) (by kernel_rfl) (lo_hCheck N) rfl rfl rfl (rf := r_hCheck) ((s_hCheck_ok N x0 x1 x2 x3 x4 x5 x6 x7 x8).trans h) (fun rs' m h => by
    unfold r_hCheck at h
    split at h
    · cases h; exact ⟨rfl, rfl⟩
    · cases h)
noncomputable def e_htwo {R : Type} (s : Int → Option (List UInt8)) (ds : List D) (K : List D → Option R) : Option R :=
  match ds with
  | [.v (.int .i64 x0) .no] => bnd1 (s x0) fun r0 => K [.v (.bytes r0) .no]
  | _ => none
noncomputable def r_htwo (rs : List D) (_ : Mem) : Option (List UInt8) :=
  match rs with
  | [.v (.bytes r0) _] => some (r0)
  | _ => none
noncomputable def s_htwo (N : Nat) (x0 : Int) : Option (List UInt8) := some [UInt8.ofNat (IntKind.u8.wrap (IntKind.i64.wrap (x0.tdiv 256))).toNat, UInt8.ofNat (IntKind.u8.wrap (x0.tmod 256)).toNat]
noncomputable def cx_htwo (N : Nat) : Cx := { T := T, isPure := tabP [], pureK := fun g ds K => tabK [] g ds K, memK := fun g dst ds m K => tabMK [] g dst ds m K, meth := tabM [], keep := fun _ => [], keepX := fun _ => [], loopT := fun _ _ _ _ => none, jumps := 9 }
theorem s_htwo_ok (N : Nat) (x0 : Int) : bodyK (cx_htwo N) Try.f68 [.v (.int .i64 x0) .no] [] r_htwo = s_htwo N x0 := by
  kernel_rfl
theorem go_htwo : Goes Try.prog 68 := goes_of Try.func68 (by kernel_rfl) (c := bodyOf Try.f68) (by kernel_rfl)
theorem eo_htwo (s : Int → Option (List UInt8)) (hs : ∀ (x0 : Int) (r0 : List UInt8), s x0 = some r0 → PureRet Try.prog T 68 [.v (.int .i64 x0) .no] [.v (.bytes r0) .no]) : EntOK Try.prog T ⟨68, e_htwo s⟩ := by
  refine ⟨go_htwo, fun R ds K r h => ?_, fun R ds K => ?_⟩
  · simp only [e_htwo] at h
    split at h
    · obtain ⟨r0, h1, h2⟩ := bnd1_some h
      exact ⟨_, h2, hs _ _ h1⟩
    · cases h
  · simp only [e_htwo]
    split
    · rw [bnd1_b]; rfl
    · rfl
theorem co_htwo (N : Nat) : CxOK Try.prog (cx_htwo N) :=
  cxOK_of2 (es := []) (me := []) (ms := []) T_ok trivial trivial trivial rfl (fun _ _ _ _ => rfl) (fun _ _ _ _ _ _ => rfl) rfl
theorem lo_htwo (N : Nat) : LoopsOK (cx_htwo N) Try.f68.ntmps (bodyOf Try.f68) :=
  loopsOK_of (k := 0) (by kernel_rfl) trivial
theorem p_htwo (N : Nat) (x0 : Int) (r0 : List UInt8) (h : s_htwo N x0 = some r0) : PureRet Try.prog T 68 [.v (.int .i64 x0) .no] [.v (.bytes r0) .no] :=
  pure_of (cx := cx_htwo N) (by kernel_rfl) (co_htwo N) Try.func68 (by kernel_rfl) (by kernel_rfl) (lo_htwo N) rfl rfl rfl (rf := r_htwo) ((s_htwo_ok N x0).trans h) (fun rs' m h => by
    unfold r_htwo at h
    split at h
    · cases h; exact ⟨rfl, rfl⟩
    · cases h)
noncomputable def e_hobject {R : Type} (s : Int → Int → List UInt8 → Int → Int → Int → Int → Int → List V → Option (Int × List UInt8 × List V)) (ds : List D) (K : List D → Option R) : Option R :=
  match ds with
  | [.agg [.v (.int .i64 x0) .no, .v (.int .i64 x1) .no, .v (.bytes x2) .no, .v (.int .i64 x3) .no, .v (.int .i64 x4) .no, .v (.int .i64 x5) .no, .v (.int .i64 x6) .no, .v (.int .i64 x7) .no, .v (.sl 48 x8) .no]] => bnd3 (s x0 x1 x2 x3 x4 x5 x6 x7 x8) fun r0 r1 r2 => K [.agg [.v (.int .i64 r0) .no, .v (.bytes r1) .no, .v (.sl 62 r2) .no]]
  | _ => none
noncomputable def r_hobject (rs : List D) (_ : Mem) : Option (Int × List UInt8 × List V) :=
  match rs with
  | [.agg [.v (.int .i64 r0) _, .v (.bytes r1) _, .v (.sl 62 r2) _]] => some (r0, r1, r2)
  | _ => none
noncomputable def s_hobject (N : Nat) (x0 : Int) (x1 : Int) (x2 : List UInt8) (x3 : Int) (x4 : Int) (x5 : Int) (x6 : Int) (x7 : Int) (x8 : List V) : Option (Int × List UInt8 × List V) := bnd1 (s_hrecords N x1) fun b0 => br b0 (bnd1 (s_htwo N x0) fun l1 => br (decide (0 < (↑x2.length : Int))) (br (decide (x1 = 2)) (bnd1 (s_htwo N x4) fun l2 => br (!decide (x3 = 0)) (br (decide (0 < (↑x8.length : Int))) (bnd2 (s_qEncode N x8) fun l3 n4 => some (98, [], [V.agg [V.int IntKind.i64 130, V.bytes [UInt8.ofNat (IntKind.u8.wrap x1).toNat, UInt8.ofNat (IntKind.u8.wrap x5).toNat, UInt8.ofNat (IntKind.u8.wrap x6).toNat], V.sl 62 []], V.agg [V.int IntKind.i64 131, V.bytes l1, V.sl 62 []], V.agg [V.int IntKind.i64 132, V.bytes x2, V.sl 62 []], V.agg [V.int IntKind.i64 128, V.bytes l2, V.sl 62 []], V.agg [V.int IntKind.i64 136, V.bytes [UInt8.ofNat (IntKind.u8.wrap x3).toNat], V.sl 62 []], V.agg [V.int IntKind.i64 138, V.bytes [UInt8.ofNat (IntKind.u8.wrap x7).toNat], V.sl 62 []], V.agg [V.int IntKind.i64 134, V.bytes l3, V.sl 62 []]])) (some (98, [], [V.agg [V.int IntKind.i64 130, V.bytes [UInt8.ofNat (IntKind.u8.wrap x1).toNat, UInt8.ofNat (IntKind.u8.wrap x5).toNat, UInt8.ofNat (IntKind.u8.wrap x6).toNat], V.sl 62 []], V.agg [V.int IntKind.i64 131, V.bytes l1, V.sl 62 []], V.agg [V.int IntKind.i64 132, V.bytes x2, V.sl 62 []], V.agg [V.int IntKind.i64 128, V.bytes l2, V.sl 62 []], V.agg [V.int IntKind.i64 136, V.bytes [UInt8.ofNat (IntKind.u8.wrap x3).toNat], V.sl 62 []], V.agg [V.int IntKind.i64 138, V.bytes [UInt8.ofNat (IntKind.u8.wrap x7).toNat], V.sl 62 []]]))) (br (decide (0 < (↑x8.length : Int))) (bnd2 (s_qEncode N x8) fun l5 n6 => some (98, [], [V.agg [V.int IntKind.i64 130, V.bytes [UInt8.ofNat (IntKind.u8.wrap x1).toNat, UInt8.ofNat (IntKind.u8.wrap x5).toNat, UInt8.ofNat (IntKind.u8.wrap x6).toNat], V.sl 62 []], V.agg [V.int IntKind.i64 131, V.bytes l1, V.sl 62 []], V.agg [V.int IntKind.i64 132, V.bytes x2, V.sl 62 []], V.agg [V.int IntKind.i64 128, V.bytes l2, V.sl 62 []], V.agg [V.int IntKind.i64 138, V.bytes [UInt8.ofNat (IntKind.u8.wrap x7).toNat], V.sl 62 []], V.agg [V.int IntKind.i64 134, V.bytes l5, V.sl 62 []]])) (some (98, [], [V.agg [V.int IntKind.i64 130, V.bytes [UInt8.ofNat (IntKind.u8.wrap x1).toNat, UInt8.ofNat (IntKind.u8.wrap x5).toNat, UInt8.ofNat (IntKind.u8.wrap x6).toNat], V.sl 62 []], V.agg [V.int IntKind.i64 131, V.bytes l1, V.sl 62 []], V.agg [V.int IntKind.i64 132, V.bytes x2, V.sl 62 []], V.agg [V.int IntKind.i64 128, V.bytes l2, V.sl 62 []], V.agg [V.int IntKind.i64 138, V.bytes [UInt8.ofNat (IntKind.u8.wrap x7).toNat], V.sl 62 []]])))) (br (!decide (x3 = 0)) (br (decide (0 < (↑x8.length : Int))) (bnd2 (s_qEncode N x8) fun l7 n8 => some (98, [], [V.agg [V.int IntKind.i64 130, V.bytes [UInt8.ofNat (IntKind.u8.wrap x1).toNat, UInt8.ofNat (IntKind.u8.wrap x5).toNat, UInt8.ofNat (IntKind.u8.wrap x6).toNat], V.sl 62 []], V.agg [V.int IntKind.i64 131, V.bytes l1, V.sl 62 []], V.agg [V.int IntKind.i64 132, V.bytes x2, V.sl 62 []], V.agg [V.int IntKind.i64 136, V.bytes [UInt8.ofNat (IntKind.u8.wrap x3).toNat], V.sl 62 []], V.agg [V.int IntKind.i64 138, V.bytes [UInt8.ofNat (IntKind.u8.wrap x7).toNat], V.sl 62 []], V.agg [V.int IntKind.i64 134, V.bytes l7, V.sl 62 []]])) (some (98, [], [V.agg [V.int IntKind.i64 130, V.bytes [UInt8.ofNat (IntKind.u8.wrap x1).toNat, UInt8.ofNat (IntKind.u8.wrap x5).toNat, UInt8.ofNat (IntKind.u8.wrap x6).toNat], V.sl 62 []], V.agg [V.int IntKind.i64 131, V.bytes l1, V.sl 62 []], V.agg [V.int IntKind.i64 132, V.bytes x2, V.sl 62 []], V.agg [V.int IntKind.i64 136, V.bytes [UInt8.ofNat (IntKind.u8.wrap x3).toNat], V.sl 62 []], V.agg [V.int IntKind.i64 138, V.bytes [UInt8.ofNat (IntKind.u8.wrap x7).toNat], V.sl 62 []]]))) (br (decide (0 < (↑x8.length : Int))) (bnd2 (s_qEncode N x8) fun l9 n10 => some (98, [], [V.agg [V.int IntKind.i64 130, V.bytes [UInt8.ofNat (IntKind.u8.wrap x1).toNat, UInt8.ofNat (IntKind.u8.wrap x5).toNat, UInt8.ofNat (IntKind.u8.wrap x6).toNat], V.sl 62 []], V.agg [V.int IntKind.i64 131, V.bytes l1, V.sl 62 []], V.agg [V.int IntKind.i64 132, V.bytes x2, V.sl 62 []], V.agg [V.int IntKind.i64 138, V.bytes [UInt8.ofNat (IntKind.u8.wrap x7).toNat], V.sl 62 []], V.agg [V.int IntKind.i64 134, V.bytes l9, V.sl 62 []]])) (some (98, [], [V.agg [V.int IntKind.i64 130, V.bytes [UInt8.ofNat (IntKind.u8.wrap x1).toNat, UInt8.ofNat (IntKind.u8.wrap x5).toNat, UInt8.ofNat (IntKind.u8.wrap x6).toNat], V.sl 62 []], V.agg [V.int IntKind.i64 131, V.bytes l1, V.sl 62 []], V.agg [V.int IntKind.i64 132, V.bytes x2, V.sl 62 []], V.agg [V.int IntKind.i64 138, V.bytes [UInt8.ofNat (IntKind.u8.wrap x7).toNat], V.sl 62 []]]))))) (br (decide (x1 = 2)) (bnd1 (s_htwo N x4) fun l11 => br (!decide (x3 = 0)) (br (decide (0 < (↑x8.length : Int))) (bnd2 (s_qEncode N x8) fun l12 n13 => some (98, [], [V.agg [V.int IntKind.i64 130, V.bytes [UInt8.ofNat (IntKind.u8.wrap x1).toNat, UInt8.ofNat (IntKind.u8.wrap x5).toNat, UInt8.ofNat (IntKind.u8.wrap x6).toNat], V.sl 62 []], V.agg [V.int IntKind.i64 131, V.bytes l1, V.sl 62 []], V.agg [V.int IntKind.i64 128, V.bytes l11, V.sl 62 []], V.agg [V.int IntKind.i64 136, V.bytes [UInt8.ofNat (IntKind.u8.wrap x3).toNat], V.sl 62 []], V.agg [V.int IntKind.i64 138, V.bytes [UInt8.ofNat (IntKind.u8.wrap x7).toNat], V.sl 62 []], V.agg [V.int IntKind.i64 134, V.bytes l12, V.sl 62 []]])) (some (98, [], [V.agg [V.int IntKind.i64 130, V.bytes [UInt8.ofNat (IntKind.u8.wrap x1).toNat, UInt8.ofNat (IntKind.u8.wrap x5).toNat, UInt8.ofNat (IntKind.u8.wrap x6).toNat], V.sl 62 []], V.agg [V.int IntKind.i64 131, V.bytes l1, V.sl 62 []], V.agg [V.int IntKind.i64 128, V.bytes l11, V.sl 62 []], V.agg [V.int IntKind.i64 136, V.bytes [UInt8.ofNat (IntKind.u8.wrap x3).toNat], V.sl 62 []], V.agg [V.int IntKind.i64 138, V.bytes [UInt8.ofNat (IntKind.u8.wrap x7).toNat], V.sl 62 []]]))) (br (decide (0 < (↑x8.length : Int))) (bnd2 (s_qEncode N x8) fun l14 n15 => some (98, [], [V.agg [V.int IntKind.i64 130, V.bytes [UInt8.ofNat (IntKind.u8.wrap x1).toNat, UInt8.ofNat (IntKind.u8.wrap x5).toNat, UInt8.ofNat (IntKind.u8.wrap x6).toNat], V.sl 62 []], V.agg [V.int IntKind.i64 131, V.bytes l1, V.sl 62 []], V.agg [V.int IntKind.i64 128, V.bytes l11, V.sl 62 []], V.agg [V.int IntKind.i64 138, V.bytes [UInt8.ofNat (IntKind.u8.wrap x7).toNat], V.sl 62 []], V.agg [V.int IntKind.i64 134, V.bytes l14, V.sl 62 []]])) (some (98, [], [V.agg [V.int IntKind.i64 130, V.bytes [UInt8.ofNat (IntKind.u8.wrap x1).toNat, UInt8.ofNat (IntKind.u8.wrap x5).toNat, UInt8.ofNat (IntKind.u8.wrap x6).toNat], V.sl 62 []], V.agg [V.int IntKind.i64 131, V.bytes l1, V.sl 62 []], V.agg [V.int IntKind.i64 128, V.bytes l11, V.sl 62 []], V.agg [V.int IntKind.i64 138, V.bytes [UInt8.ofNat (IntKind.u8.wrap x7).toNat], V.sl 62 []]])))) (br (!decide (x3 = 0)) (br (decide (0 < (↑x8.length : Int))) (bnd2 (s_qEncode N x8) fun l16 n17 => some (98, [], [V.agg [V.int IntKind.i64 130, V.bytes [UInt8.ofNat (IntKind.u8.wrap x1).toNat, UInt8.ofNat (IntKind.u8.wrap x5).toNat, UInt8.ofNat (IntKind.u8.wrap x6).toNat], V.sl 62 []], V.agg [V.int IntKind.i64 131, V.bytes l1, V.sl 62 []], V.agg [V.int IntKind.i64 136, V.bytes [UInt8.ofNat (IntKind.u8.wrap x3).toNat], V.sl 62 []], V.agg [V.int IntKind.i64 138, V.bytes [UInt8.ofNat (IntKind.u8.wrap x7).toNat], V.sl 62 []], V.agg [V.int IntKind.i64 134, V.bytes l16, V.sl 62 []]])) (some (98, [], [V.agg [V.int IntKind.i64 130, V.bytes [UInt8.ofNat (IntKind.u8.wrap x1).toNat, UInt8.ofNat (IntKind.u8.wrap x5).toNat, UInt8.ofNat (IntKind.u8.wrap x6).toNat], V.sl 62 []], V.agg [V.int IntKind.i64 131, V.bytes l1, V.sl 62 []], V.agg [V.int IntKind.i64 136, V.bytes [UInt8.ofNat (IntKind.u8.wrap x3).toNat], V.sl 62 []], V.agg [V.int IntKind.i64 138, V.bytes [UInt8.ofNat (IntKind.u8.wrap x7).toNat], V.sl 62 []]]))) (br (decide (0 < (↑x8.length : Int))) (bnd2 (s_qEncode N x8) fun l18 n19 => some (98, [], [V.agg [V.int IntKind.i64 130, V.bytes [UInt8.ofNat (IntKind.u8.wrap x1).toNat, UInt8.ofNat (IntKind.u8.wrap x5).toNat, UInt8.ofNat (IntKind.u8.wrap x6).toNat], V.sl 62 []], V.agg [V.int IntKind.i64 131, V.bytes l1, V.sl 62 []], V.agg [V.int IntKind.i64 138, V.bytes [UInt8.ofNat (IntKind.u8.wrap x7).toNat], V.sl 62 []], V.agg [V.int IntKind.i64 134, V.bytes l18, V.sl 62 []]])) (some (98, [], [V.agg [V.int IntKind.i64 130, V.bytes [UInt8.ofNat (IntKind.u8.wrap x1).toNat, UInt8.ofNat (IntKind.u8.wrap x5).toNat, UInt8.ofNat (IntKind.u8.wrap x6).toNat], V.sl 62 []], V.agg [V.int IntKind.i64 131, V.bytes l1, V.sl 62 []], V.agg [V.int IntKind.i64 138, V.bytes [UInt8.ofNat (IntKind.u8.wrap x7).toNat], V.sl 62 []]])))))) (bnd1 (s_htwo N x0) fun l20 => br (decide (0 < (↑x2.length : Int))) (br (decide (x1 = 2)) (bnd1 (s_htwo N x4) fun l21 => br (!decide (x3 = 0)) (br (decide (0 < (↑x8.length : Int))) (bnd2 (s_qEncode N x8) fun l22 n23 => some (98, [], [V.agg [V.int IntKind.i64 130, V.bytes [UInt8.ofNat (IntKind.u8.wrap x1).toNat], V.sl 62 []], V.agg [V.int IntKind.i64 131, V.bytes l20, V.sl 62 []], V.agg [V.int IntKind.i64 132, V.bytes x2, V.sl 62 []], V.agg [V.int IntKind.i64 128, V.bytes l21, V.sl 62 []], V.agg [V.int IntKind.i64 136, V.bytes [UInt8.ofNat (IntKind.u8.wrap x3).toNat], V.sl 62 []], V.agg [V.int IntKind.i64 138, V.bytes [UInt8.ofNat (IntKind.u8.wrap x7).toNat], V.sl 62 []], V.agg [V.int IntKind.i64 134, V.bytes l22, V.sl 62 []]])) (some (98, [], [V.agg [V.int IntKind.i64 130, V.bytes [UInt8.ofNat (IntKind.u8.wrap x1).toNat], V.sl 62 []], V.agg [V.int IntKind.i64 131, V.bytes l20, V.sl 62 []], V.agg [V.int IntKind.i64 132, V.bytes x2, V.sl 62 []], V.agg [V.int IntKind.i64 128, V.bytes l21, V.sl 62 []], V.agg [V.int IntKind.i64 136, V.bytes [UInt8.ofNat (IntKind.u8.wrap x3).toNat], V.sl 62 []], V.agg [V.int IntKind.i64 138, V.bytes [UInt8.ofNat (IntKind.u8.wrap x7).toNat], V.sl 62 []]]))) (br (decide (0 < (↑x8.length : Int))) (bnd2 (s_qEncode N x8) fun l24 n25 => some (98, [], [V.agg [V.int IntKind.i64 130, V.bytes [UInt8.ofNat (IntKind.u8.wrap x1).toNat], V.sl 62 []], V.agg [V.int IntKind.i64 131, V.bytes l20, V.sl 62 []], V.agg [V.int IntKind.i64 132, V.bytes x2, V.sl 62 []], V.agg [V.int IntKind.i64 128, V.bytes l21, V.sl 62 []], V.agg [V.int IntKind.i64 138, V.bytes [UInt8.ofNat (IntKind.u8.wrap x7).toNat], V.sl 62 []], V.agg [V.int IntKind.i64 134, V.bytes l24, V.sl 62 []]])) (some (98, [], [V.agg [V.int IntKind.i64 130, V.bytes [UInt8.ofNat (IntKind.u8.wrap x1).toNat], V.sl 62 []], V.agg [V.int IntKind.i64 131, V.bytes l20, V.sl 62 []], V.agg [V.int IntKind.i64 132, V.bytes x2, V.sl 62 []], V.agg [V.int IntKind.i64 128, V.bytes l21, V.sl 62 []], V.agg [V.int IntKind.i64 138, V.bytes [UInt8.ofNat (IntKind.u8.wrap x7).toNat], V.sl 62 []]])))) (br (!decide (x3 = 0)) (br (decide (0 < (↑x8.length : Int))) (bnd2 (s_qEncode N x8) fun l26 n27 => some (98, [], [V.agg [V.int IntKind.i64 130, V.bytes [UInt8.ofNat (IntKind.u8.wrap x1).toNat], V.sl 62 []], V.agg [V.int IntKind.i64 131, V.bytes l20, V.sl 62 []], V.agg [V.int IntKind.i64 132, V.bytes x2, V.sl 62 []], V.agg [V.int IntKind.i64 136, V.bytes [UInt8.ofNat (IntKind.u8.wrap x3).toNat], V.sl 62 []], V.agg [V.int IntKind.i64 138, V.bytes [UInt8.ofNat (IntKind.u8.wrap x7).toNat], V.sl 62 []], V.agg [V.int IntKind.i64 134, V.bytes l26, V.sl 62 []]])) (some (98, [], [V.agg [V.int IntKind.i64 130, V.bytes [UInt8.ofNat (IntKind.u8.wrap x1).toNat], V.sl 62 []], V.agg [V.int IntKind.i64 131, V.bytes l20, V.sl 62 []], V.agg [V.int IntKind.i64 132, V.bytes x2, V.sl 62 []], V.agg [V.int IntKind.i64 136, V.bytes [UInt8.ofNat (IntKind.u8.wrap x3).toNat], V.sl 62 []], V.agg [V.int IntKind.i64 138, V.bytes [UInt8.ofNat (IntKind.u8.wrap x7).toNat], V.sl 62 []]]))) (br (decide (0 < (↑x8.length : Int))) (bnd2 (s_qEncode N x8) fun l28 n29 => some (98, [], [V.agg [V.int IntKind.i64 130, V.bytes [UInt8.ofNat (IntKind.u8.wrap x1).toNat], V.sl 62 []], V.agg [V.int IntKind.i64 131, V.bytes l20, V.sl 62 []], V.agg [V.int IntKind.i64 132, V.bytes x2, V.sl 62 []], V.agg [V.int IntKind.i64 138, V.bytes [UInt8.ofNat (IntKind.u8.wrap x7).toNat], V.sl 62 []], V.agg [V.int IntKind.i64 134, V.bytes l28, V.sl 62 []]])) (some (98, [], [V.agg [V.int IntKind.i64 130, V.bytes [UInt8.ofNat (IntKind.u8.wrap x1).toNat], V.sl 62 []], V.agg [V.int IntKind.i64 131, V.bytes l20, V.sl 62 []], V.agg [V.int IntKind.i64 132, V.bytes x2, V.sl 62 []], V.agg [V.int IntKind.i64 138, V.bytes [UInt8.ofNat (IntKind.u8.wrap x7).toNat], V.sl 62 []]]))))) (br (decide (x1 = 2)) (bnd1 (s_htwo N x4) fun l30 => br (!decide (x3 = 0)) (br (decide (0 < (↑x8.length : Int))) (bnd2 (s_qEncode N x8) fun l31 n32 => some (98, [], [V.agg [V.int IntKind.i64 130, V.bytes [UInt8.ofNat (IntKind.u8.wrap x1).toNat], V.sl 62 []], V.agg [V.int IntKind.i64 131, V.bytes l20, V.sl 62 []], V.agg [V.int IntKind.i64 128, V.bytes l30, V.sl 62 []], V.agg [V.int IntKind.i64 136, V.bytes [UInt8.ofNat (IntKind.u8.wrap x3).toNat], V.sl 62 []], V.agg [V.int IntKind.i64 138, V.bytes [UInt8.ofNat (IntKind.u8.wrap x7).toNat], V.sl 62 []], V.agg [V.int IntKind.i64 134, V.bytes l31, V.sl 62 []]])) (some (98, [], [V.agg [V.int IntKind.i64 130, V.bytes [UInt8.ofNat (IntKind.u8.wrap x1).toNat], V.sl 62 []], V.agg [V.int IntKind.i64 131, V.bytes l20, V.sl 62 []], V.agg [V.int IntKind.i64 128, V.bytes l30, V.sl 62 []], V.agg [V.int IntKind.i64 136, V.bytes [UInt8.ofNat (IntKind.u8.wrap x3).toNat], V.sl 62 []], V.agg [V.int IntKind.i64 138, V.bytes [UInt8.ofNat (IntKind.u8.wrap x7).toNat], V.sl 62 []]]))) (br (decide (0 < (↑x8.length : Int))) (bnd2 (s_qEncode N x8) fun l33 n34 => some (98, [], [V.agg [V.int IntKind.i64 130, V.bytes [UInt8.ofNat (IntKind.u8.wrap x1).toNat], V.sl 62 []], V.agg [V.int IntKind.i64 131, V.bytes l20, V.sl 62 []], V.agg [V.int IntKind.i64 128, V.bytes l30, V.sl 62 []], V.agg [V.int IntKind.i64 138, V.bytes [UInt8.ofNat (IntKind.u8.wrap x7).toNat], V.sl 62 []], V.agg [V.int IntKind.i64 134, V.bytes l33, V.sl 62 []]])) (some (98, [], [V.agg [V.int IntKind.i64 130, V.bytes [UInt8.ofNat (IntKind.u8.wrap x1).toNat], V.sl 62 []], V.agg [V.int IntKind.i64 131, V.bytes l20, V.sl 62 []], V.agg [V.int IntKind.i64 128, V.bytes l30, V.sl 62 []], V.agg [V.int IntKind.i64 138, V.bytes [UInt8.ofNat (IntKind.u8.wrap x7).toNat], V.sl 62 []]])))) (br (!decide (x3 = 0)) (br (decide (0 < (↑x8.length : Int))) (bnd2 (s_qEncode N x8) fun l35 n36 => some (98, [], [V.agg [V.int IntKind.i64 130, V.bytes [UInt8.ofNat (IntKind.u8.wrap x1).toNat], V.sl 62 []], V.agg [V.int IntKind.i64 131, V.bytes l20, V.sl 62 []], V.agg [V.int IntKind.i64 136, V.bytes [UInt8.ofNat (IntKind.u8.wrap x3).toNat], V.sl 62 []], V.agg [V.int IntKind.i64 138, V.bytes [UInt8.ofNat (IntKind.u8.wrap x7).toNat], V.sl 62 []], V.agg [V.int IntKind.i64 134, V.bytes l35, V.sl 62 []]])) (some (98, [], [V.agg [V.int IntKind.i64 130, V.bytes [UInt8.ofNat (IntKind.u8.wrap x1).toNat], V.sl 62 []], V.agg [V.int IntKind.i64 131, V.bytes l20, V.sl 62 []], V.agg [V.int IntKind.i64 136, V.bytes [UInt8.ofNat (IntKind.u8.wrap x3).toNat], V.sl 62 []], V.agg [V.int IntKind.i64 138, V.bytes [UInt8.ofNat (IntKind.u8.wrap x7).toNat], V.sl 62 []]]))) (br (decide (0 < (↑x8.length : Int))) (bnd2 (s_qEncode N x8) fun l37 n38 => some (98, [], [V.agg [V.int IntKind.i64 130, V.bytes [UInt8.ofNat (IntKind.u8.wrap x1).toNat], V.sl 62 []], V.agg [V.int IntKind.i64 131, V.bytes l20, V.sl 62 []], V.agg [V.int IntKind.i64 138, V.bytes [UInt8.ofNat (IntKind.u8.wrap x7).toNat], V.sl 62 []], V.agg [V.int IntKind.i64 134, V.bytes l37, V.sl 62 []]])) (some (98, [], [V.agg [V.int IntKind.i64 130, V.bytes [UInt8.ofNat (IntKind.u8.wrap x1).toNat], V.sl 62 []], V.agg [V.int IntKind.i64 131, V.bytes l20, V.sl 62 []], V.agg [V.int IntKind.i64 138, V.bytes [UInt8.ofNat (IntKind.u8.wrap x7).toNat], V.sl 62 []]]))))))
noncomputable def cx_hobject (N : Nat) : Cx := { T := T, isPure := tabP [⟨57, e_hrecords (s_hrecords N)⟩, ⟨68, e_htwo (s_htwo N)⟩, ⟨69, e_qEncode (s_qEncode N)⟩], pureK := fun g ds K => tabK [⟨57, e_hrecords (s_hrecords N)⟩, ⟨68, e_htwo (s_htwo N)⟩, ⟨69, e_qEncode (s_qEncode N)⟩] g ds K, memK := fun g dst ds m K => tabMK [] g dst ds m K, meth := tabM [], keep := fun _ => [], keepX := fun _ => [], loopT := fun _ _ _ _ => none, jumps := 9 }
theorem s_hobject_ok (N : Nat) (x0 : Int) (x1 : Int) (x2 : List UInt8) (x3 : Int) (x4 : Int) (x5 : Int) (x6 : Int) (x7 : Int) (x8 : List V) : bodyK (cx_hobject N) Try.f43 [.agg [.v (.int .i64 x0) .no, .v (.int .i64 x1) .no, .v (.bytes x2) .no, .v (.int .i64 x3) .no, .v (.int .i64 x4) .no, .v (.int .i64 x5) .no, .v (.int .i64 x6) .no, .v (.int .i64 x7) .no, .v (.sl 48 x8) .no]] [] r_hobject = s_hobject N x0 x1 x2 x3 x4 x5 x6 x7 x8 := by
  kernel_rfl
theorem go_hobject : Goes Try.prog 43 := goes_of Try.func43 (by kernel_rfl) (c := bodyOf Try.f43) (by kernel_rfl)
theorem eo_hobject (s : Int → Int → List UInt8 → Int → Int → Int → Int → Int → List V → Option (Int × List UInt8 × List V)) (hs : ∀ (x0 : Int) (x1 : Int) (x2 : List UInt8) (x3 : Int) (x4 : Int) (x5 : Int) (x6 : Int) (x7 : Int) (x8 : List V) (r0 : Int) (r1 : List UInt8) (r2 : List V), s x0 x1 x2 x3 x4 x5 x6 x7 x8 = some (r0, r1, r2) → PureRet Try.prog T 43 [.agg [.v (.int .i64 x0) .no, .v (.int .i64 x1) .no, .v (.bytes x2) .no, .v (.int .i64 x3) .no, .v (.int .i64 x4) .no, .v (.int .i64 x5) .no, .v (.int .i64 x6) .no, .v (.int .i64 x7) .no, .v (.sl 48 x8) .no]] [.agg [.v (.int .i64 r0) .no, .v (.bytes r1) .no, .v (.sl 62 r2) .no]]) : EntOK Try.prog T ⟨43, e_hobject s⟩ := by
  refine ⟨go_hobject, fun R ds K r h => ?_, fun R ds K => ?_⟩
  · simp only [e_hobject] at h
    split at h
    · obtain ⟨r0, r1, r2, h1, h2⟩ := bnd3_some h
      exact ⟨_, h2, hs _ _ _ _ _ _ _ _ _ _ _ _ h1⟩
    · cases h
  · simp only [e_hobject]
    split
    · rw [bnd3_b]; rfl
    · rfl
theorem co_hobject (N : Nat) : CxOK Try.prog (cx_hobject N) :=
  cxOK_of2 (es := [⟨57, e_hrecords (s_hrecords N)⟩, ⟨68, e_htwo (s_htwo N)⟩, ⟨69, e_qEncode (s_qEncode N)⟩]) (me := []) (ms := []) T_ok ⟨eo_hrecords _ (p_hrecords N), eo_htwo _ (p_htwo N), eo_qEncode _ (p_qEncode N), trivial⟩ trivial trivial rfl (fun _ _ _ _ => rfl) (fun _ _ _ _ _ _ => rfl) rfl
theorem lo_hobject (N : Nat) : LoopsOK (cx_hobject N) Try.f43.ntmps (bodyOf Try.f43) :=
  loopsOK_of (k := 0) (by kernel_rfl) trivial
theorem p_hobject (N : Nat) (x0 : Int) (x1 : Int) (x2 : List UInt8) (x3 : Int) (x4 : Int) (x5 : Int) (x6 : Int) (x7 : Int) (x8 : List V) (r0 : Int) (r1 : List UInt8) (r2 : List V) (h : s_hobject N x0 x1 x2 x3 x4 x5 x6 x7 x8 = some (r0, r1, r2)) : PureRet Try.prog T 43 [.agg [.v (.int .i64 x0) .no, .v (.int .i64 x1) .no, .v (.bytes x2) .no, .v (.int .i64 x3) .no, .v (.int .i64 x4) .no, .v (.int .i64 x5) .no, .v (.int .i64 x6) .no, .v (.int .i64 x7) .no, .v (.sl 48 x8) .no]] [.agg [.v (.int .i64 r0) .no, .v (.bytes r1) .no, .v (.sl 62 r2) .no]] :=
  pure_of (cx := cx_hobject N) (by kernel_rfl) (co_hobject N) Try.func43 (by kernel_rfl) (by kernel_rfl) (lo_hobject N) rfl rfl rfl (rf := r_hobject) ((s_hobject_ok N x0 x1 x2 x3 x4 x5 x6 x7 x8).trans h) (fun rs' m h => by
    unfold r_hobject at h
    split at h
    · cases h; exact ⟨rfl, rfl⟩
    · cases h)
noncomputable def e_hEncode {R : Type} (s : Int → Int → List UInt8 → Int → Int → Int → Int → Int → List V → Option (List UInt8 × Int)) (ds : List D) (K : List D → Option R) : Option R :=
  match ds with
  | [.agg [.v (.int .i64 x0) .no, .v (.int .i64 x1) .no, .v (.bytes x2) .no, .v (.int .i64 x3) .no, .v (.int .i64 x4) .no, .v (.int .i64 x5) .no, .v (.int .i64 x6) .no, .v (.int .i64 x7) .no, .v (.sl 48 x8) .no]] => bnd2 (s x0 x1 x2 x3 x4 x5 x6 x7 x8) fun r0 r1 => K [.v (.bytes r0) .no, .v (.int .i64 r1) .no]
  | _ => none
noncomputable def r_hEncode (rs : List D) (_ : Mem) : Option (List UInt8 × Int) :=
  match rs with
  | [.v (.bytes r0) _, .v (.int .i64 r1) _] => some (r0, r1)
  | _ => none
noncomputable def s_hEncode (N : Nat) (x0 : Int) (x1 : Int) (x2 : List UInt8) (x3 : Int) (x4 : Int) (x5 : Int) (x6 : Int) (x7 : Int) (x8 : List V) : Option (List UInt8 × Int) := bnd1 (s_hCheck N x0 x1 x2 x3 x4 x5 x6 x7 x8) fun n0 => br (!decide (n0 = 0)) (some ([], n0)) (bnd3 (s_hobject N x0 x1 x2 x3 x4 x5 x6 x7 x8) fun n1 l2 l3 => bnd2 (s_rEncode N [V.agg [V.int IntKind.i64 n1, V.bytes l2, V.sl 62 l3]]) fun l4 n5 => some (l4, n5))
noncomputable def cx_hEncode (N : Nat) : Cx := { T := T, isPure := tabP [⟨12, e_hCheck (s_hCheck N)⟩, ⟨43, e_hobject (s_hobject N)⟩, ⟨42, e_rEncode (s_rEncode N)⟩], pureK := fun g ds K => tabK [⟨12, e_hCheck (s_hCheck N)⟩, ⟨43, e_hobject (s_hobject N)⟩, ⟨42, e_rEncode (s_rEncode N)⟩] g ds K, memK := fun g dst ds m K => tabMK [] g dst ds m K, meth := tabM [], keep := fun _ => [], keepX := fun _ => [], loopT := fun _ _ _ _ => none, jumps := 9 }
theorem s_hEncode_ok (N : Nat) (x0 : Int) (x1 : Int) (x2 : List UInt8) (x3 : Int) (x4 : Int) (x5 : Int) (x6 : Int) (x7 : Int) (x8 : List V) : bodyK (cx_hEncode N) Try.f15 [.agg [.v (.int .i64 x0) .no, .v (.int .i64 x1) .no, .v (.bytes x2) .no, .v (.int .i64 x3) .no, .v (.int .i64 x4) .no, .v (.int .i64 x5) .no, .v (.int .i64 x6) .no, .v (.int .i64 x7) .no, .v (.sl 48 x8) .no]] [] r_hEncode = s_hEncode N x0 x1 x2 x3 x4 x5 x6 x7 x8 := by
  kernel_rfl
theorem go_hEncode : Goes Try.prog 15 := goes_of Try.func15 (by kernel_rfl) (c := bodyOf Try.f15) (by kernel_rfl)
theorem eo_hEncode (s : Int → Int → List UInt8 → Int → Int → Int → Int → Int → List V → Option (List UInt8 × Int)) (hs : ∀ (x0 : Int) (x1 : Int) (x2 : List UInt8) (x3 : Int) (x4 : Int) (x5 : Int) (x6 : Int) (x7 : Int) (x8 : List V) (r0 : List UInt8) (r1 : Int), s x0 x1 x2 x3 x4 x5 x6 x7 x8 = some (r0, r1) → PureRet Try.prog T 15 [.agg [.v (.int .i64 x0) .no, .v (.int .i64 x1) .no, .v (.bytes x2) .no, .v (.int .i64 x3) .no, .v (.int .i64 x4) .no, .v (.int .i64 x5) .no, .v (.int .i64 x6) .no, .v (.int .i64 x7) .no, .v (.sl 48 x8) .no]] [.v (.bytes r0) .no, .v (.int .i64 r1) .no]) : EntOK Try.prog T ⟨15, e_hEncode s⟩ := by
  refine ⟨go_hEncode, fun R ds K r h => ?_, fun R ds K => ?_⟩
  · simp only [e_hEncode] at h
    split at h
    · obtain ⟨r0, r1, h1, h2⟩ := bnd2_some h
      exact ⟨_, h2, hs _ _ _ _ _ _ _ _ _ _ _ h1⟩
    · cases h
  · simp only [e_hEncode]
    split
    · rw [bnd2_b]; rfl
    · rfl
theorem co_hEncode (N : Nat) : CxOK Try.prog (cx_hEncode N) :=
  cxOK_of2 (es := [⟨12, e_hCheck (s_hCheck N)⟩, ⟨43, e_hobject (s_hobject N)⟩, ⟨42, e_rEncode (s_rEncode N)⟩]) (me := []) (ms := []) T_ok ⟨eo_hCheck _ (p_hCheck N), eo_hobject _ (p_hobject N), eo_rEncode _ (p_rEncode N), trivial⟩ trivial trivial rfl (fun _ _ _ _ => rfl) (fun _ _ _ _ _ _ => rfl) rfl
theorem lo_hEncode (N : Nat) : LoopsOK (cx_hEncode N) Try.f15.ntmps (bodyOf Try.f15) :=
  loopsOK_of (k := 0) (by kernel_rfl) trivial
theorem p_hEncode (N : Nat) (x0 : Int) (x1 : Int) (x2 : List UInt8) (x3 : Int) (x4 : Int) (x5 : Int) (x6 : Int) (x7 : Int) (x8 : List V) (r0 : List UInt8) (r1 : Int) (h : s_hEncode N x0 x1 x2 x3 x4 x5 x6 x7 x8 = some (r0, r1)) : PureRet Try.prog T 15 [.agg [.v (.int .i64 x0) .no, .v (.int .i64 x1) .no, .v (.bytes x2) .no, .v (.int .i64 x3) .no, .v (.int .i64 x4) .no, .v (.int .i64 x5) .no, .v (.int .i64 x6) .no, .v (.int .i64 x7) .no, .v (.sl 48 x8) .no]] [.v (.bytes r0) .no, .v (.int .i64 r1) .no] :=
  pure_of (cx := cx_hEncode N) (by kernel_rfl) (co_hEncode N) Try.func15 (by kernel_rfl) (by kernel_rfl) (lo_hEncode N) rfl rfl rfl (rf := r_hEncode) ((s_hEncode_ok N x0 x1 x2 x3 x4 x5 x6 x7 x8).trans h) (fun rs' m h => by
    unfold r_hEncode at h
    split at h
    · cases h; exact ⟨rfl, rfl⟩
    · cases h)
noncomputable def e_horder {R : Type} (s : Int → Option (Int)) (ds : List D) (K : List D → Option R) : Option R :=
  match ds with
  | [.v (.int .i64 x0) .no] => bnd1 (s x0) fun r0 => K [.v (.int .i64 r0) .no]
  | _ => none
noncomputable def r_horder (rs : List D) (_ : Mem) : Option (Int) :=
  match rs with
  | [.v (.int .i64 r0) _] => some (r0)
  | _ => none
noncomputable def F_horder_3 {R : Type} (N : Nat) (n0 : Int) (vs1 : List V) (Lq : Int → Option R) (K0 : Int → Option R) (K1 : Option R) (n2 : Int) : Option R := br (decide (n2 < (↑vs1.length : Int))) (br (decide (0 ≤ n2) && decide (n2 < (↑vs1.length : Int))) (at? vs1 n2.toNat fun x0 => V.unInt IntKind.i64 x0 fun n1 => br (decide (n1 = n0)) (K0 n2) (Lq (IntKind.i64.wrap (n2 + 1)))) none) K1
noncomputable def S_horder_3 {R : Type} (N : Nat) (n0 : Int) (vs1 : List V) : Nat → Int → (Int → Option R) → (Option R) → Option R | 0, _, _, _ => none | t + 1, n2, K0, K1 => F_horder_3 N n0 vs1 (fun n2 => S_horder_3 N n0 vs1 t n2 K0 K1) K0 K1 n2
noncomputable def l_horder_3 {R : Type} (N : Nat) (ds : List D) (m : Mem) (K : Ex → List D → Mem → Option R) : Option R :=
  match ds, m with
  | [(.v (.int .i64 n0) .no), (.v (.sl 3 vs1) (.own (.slot 3) 3)), (.v (.int .i64 n2) .no)], [[]] => S_horder_3 N n0 vs1 N n2 (fun a0 => K .ret [(.v (.int .i64 a0) .no)] [[]]) (K (.exit 0) [.any] [[]])
  | _, _ => none
noncomputable def s_horder (N : Nat) (x0 : Int) : Option (Int) := S_horder_3 N x0 [V.int IntKind.i64 130, V.int IntKind.i64 131, V.int IntKind.i64 132, V.int IntKind.i64 128, V.int IntKind.i64 136, V.int IntKind.i64 138, V.int IntKind.i64 134] N 0 (fun n0 => some n0) (some (-1))
noncomputable def cx_horder (N : Nat) : Cx := { T := T, isPure := tabP [], pureK := fun g ds K => tabK [] g ds K, memK := fun g dst ds m K => tabMK [] g dst ds m K, meth := tabM [], keep := fun r => match r with | 3 => [0, 3, 4] | _ => [], keepX := fun r => match r with | 3 => [2] | _ => [], loopT := fun r ds m K => match r with | 3 => l_horder_3 N ds m K | _ => none, jumps := 9 }
theorem F_horder_3_ok {R : Type} (N : Nat) (n0 : Int) (vs1 : List V) (n2 : Int) (L : List D → Mem → Option R) (K : Ex → List D → Mem → Option R) :
    roundK (fun st K => codeK (cx_horder N) (loopN Try.f79 0) st K) 19 [0, 3, 4] [2] L [(.v (.int .i64 n0) .no), (.v (.sl 3 vs1) (.own (.slot 3) 3)), (.v (.int .i64 n2) .no)] [[]] K = F_horder_3 N n0 vs1 (fun n2 => L [(.v (.int .i64 n0) .no), (.v (.sl 3 vs1) (.own (.slot 3) 3)), (.v (.int .i64 n2) .no)] [[]]) (fun a0 => K .ret [(.v (.int .i64 a0) .no)] [[]]) (K (.exit 0) [.any] [[]]) n2 := by
  kernel_rfl
theorem S_horder_3_ok {R : Type} (N : Nat) (n0 : Int) (vs1 : List V) (K : Ex → List D → Mem → Option R) : ∀ (t : Nat) (n2 : Int),
    loopK (fun st K => codeK (cx_horder N) (loopN Try.f79 0) st K) 19 [0, 3, 4] [2] t [(.v (.int .i64 n0) .no), (.v (.sl 3 vs1) (.own (.slot 3) 3)), (.v (.int .i64 n2) .no)] [[]] K = S_horder_3 N n0 vs1 t n2 (fun a0 => K .ret [(.v (.int .i64 a0) .no)] [[]]) (K (.exit 0) [.any] [[]])
  | 0, n2 => rfl
  | t + 1, n2 => (F_horder_3_ok N n0 vs1 n2 _ K).trans (congrArg (fun L => F_horder_3 N n0 vs1 L (fun a0 => K .ret [(.v (.int .i64 a0) .no)] [[]]) (K (.exit 0) [.any] [[]]) n2) (funext fun n2 => S_horder_3_ok N n0 vs1 K t n2))
theorem s_horder_ok (N : Nat) (x0 : Int) : bodyK (cx_horder N) Try.f79 [.v (.int .i64 x0) .no] [] r_horder = s_horder N x0 := by
  kernel_rfl
theorem go_horder : Goes Try.prog 79 := goes_of Try.func79 (by kernel_rfl) (c := bodyOf Try.f79) (by kernel_rfl)
theorem eo_horder (s : Int → Option (Int)) (hs : ∀ (x0 : Int) (r0 : Int), s x0 = some r0 → PureRet Try.prog T 79 [.v (.int .i64 x0) .no] [.v (.int .i64 r0) .no]) : EntOK Try.prog T ⟨79, e_horder s⟩ := by
  refine ⟨go_horder, fun R ds K r h => ?_, fun R ds K => ?_⟩
  · simp only [e_horder] at h
    split at h
    · obtain ⟨r0, h1, h2⟩ := bnd1_some h
      exact ⟨_, h2, hs _ _ h1⟩
    · cases h
  · simp only [e_horder]
    split
    · rw [bnd1_b]; rfl
    · rfl
theorem co_horder (N : Nat) : CxOK Try.prog (cx_horder N) :=
  cxOK_of2 (es := []) (me := []) (ms := []) T_ok trivial trivial trivial rfl (fun _ _ _ _ => rfl) (fun _ _ _ _ _ _ => rfl) rfl
theorem lk_horder_3 (N : Nat) : LoopOK (cx_horder N) 19 (loopN Try.f79 0) := by
  refine loopOK_of (rid := 3) (by kernel_rfl) rfl rfl fun R ds m K r h => ?_
  have h : l_horder_3 N ds m K = some r := h
  unfold l_horder_3 at h
  split at h
  · exact ⟨N, Eq.trans (S_horder_3_ok ..) h⟩
  · cases h
theorem lo_horder (N : Nat) : LoopsOK (cx_horder N) Try.f79.ntmps (bodyOf Try.f79) :=
  loopsOK_of (k := 1) (by kernel_rfl) ⟨trivial, lk_horder_3 N⟩
theorem p_horder (N : Nat) (x0 : Int) (r0 : Int) (h : s_horder N x0 = some r0) : PureRet Try.prog T 79 [.v (.int .i64 x0) .no] [.v (.int .i64 r0) .no] :=
  pure_of (cx := cx_horder N) (by kernel_rfl) (co_horder N) Try.func79 (by kernel_rfl) (by kernel_rfl) (lo_horder N) rfl rfl rfl (rf := r_horder) ((s_horder_ok N x0).trans h) (fun rs' m h => by
    unfold r_horder at h
    split at h
    · cases h; exact ⟨rfl, rfl⟩
    · cases h)
noncomputable def e_hform {R : Type} (s : List V → Option (Bool)) (ds : List D) (K : List D → Option R) : Option R :=
  match ds with
  | [.v (.sl 62 x0) .no] => bnd1 (s x0) fun r0 => K [.v (.bool r0) .no]
  | _ => none
noncomputable def r_hform (rs : List D) (_ : Mem) : Option (Bool) :=
  match rs with
  | [.v (.bool r0) _] => some (r0)
  | _ => none
noncomputable def F_hform_4 {R : Type} (N : Nat) (vs0 : List V) (Lq : Int → Int → Int → Option R) (K0 : Bool → Int → Option R) (K1 : Int → Option R) (n1 : Int) (n2 : Int) (n3 : Int) : Option R := br (decide (n3 < (↑vs0.length : Int))) (br (decide (0 ≤ n3) && decide (n3 < (↑vs0.length : Int))) (at? vs0 n3.toNat fun x0 => x0.unAgg fun l1 => unCons l1 fun x2 l3 => V.unInt IntKind.i64 x2 fun n4 => unCons l3 fun x5 l6 => x5.unBytes fun l7 => unCons l6 fun x8 l9 => V.unSl 62 x8 fun l10 => unNil l9 (bnd1 (s_horder N n4) fun n11 => br (decide (n11 ≤ n1)) (K0 false n2) (br (decide (0 ≤ n3) && decide (n3 < (↑vs0.length : Int))) (at? vs0 n3.toNat fun x12 => x12.unAgg fun l13 => unCons l13 fun x14 l15 => V.unInt IntKind.i64 x14 fun n16 => unCons l15 fun x17 l18 => x17.unBytes fun l19 => unCons l18 fun x20 l21 => V.unSl 62 x20 fun l22 => unNil l21 (br (decide (0 ≤ n3) && decide (n3 < (↑vs0.length : Int))) (at? vs0 n3.toNat fun x23 => x23.unAgg fun l24 => unCons l24 fun x25 l26 => V.unInt IntKind.i64 x25 fun n27 => unCons l26 fun x28 l29 => x28.unBytes fun l30 => unCons l29 fun x31 l32 => V.unSl 62 x31 fun l33 => unNil l32 (br (decide (n27 = 130)) (br (!decide ((↑l19.length : Int) = 1)) (br (!decide ((↑l19.length : Int) = 3)) (K0 false n2) (Lq n11 (IntKind.i64.wrap (n2 + 1)) (IntKind.i64.wrap (n3 + 1)))) (Lq n11 (IntKind.i64.wrap (n2 + 1)) (IntKind.i64.wrap (n3 + 1)))) (br (decide (n27 = 131)) (br (!decide ((↑l19.length : Int) = 2)) (K0 false n2) (Lq n11 (IntKind.i64.wrap (n2 + 1)) (IntKind.i64.wrap (n3 + 1)))) (br (decide (n27 = 128)) (br (!decide ((↑l19.length : Int) = 2)) (K0 false n2) (Lq n11 n2 (IntKind.i64.wrap (n3 + 1)))) (br (decide (n27 = 136)) (br (!decide ((↑l19.length : Int) = 1)) (K0 false n2) (Lq n11 n2 (IntKind.i64.wrap (n3 + 1)))) (br (decide (n27 = 138)) (br (!decide ((↑l19.length : Int) = 1)) (K0 false n2) (Lq n11 (IntKind.i64.wrap (n2 + 1)) (IntKind.i64.wrap (n3 + 1)))) (Lq n11 n2 (IntKind.i64.wrap (n3 + 1))))))))) none)) none))) none) (K1 n2)
noncomputable def S_hform_4 {R : Type} (N : Nat) (vs0 : List V) : Nat → Int → Int → Int → (Bool → Int → Option R) → (Int → Option R) → Option R | 0, _, _, _, _, _ => none | t + 1, n1, n2, n3, K0, K1 => F_hform_4 N vs0 (fun n1 n2 n3 => S_hform_4 N vs0 t n1 n2 n3 K0 K1) K0 K1 n1 n2 n3
noncomputable def l_hform_4 {R : Type} (N : Nat) (ds : List D) (m : Mem) (K : Ex → List D → Mem → Option R) : Option R :=
  match ds, m with
  | [(.v (.sl 62 vs0) .no), (.v (.int .i64 n1) .no), (.v (.int .i64 n2) .no), (.v (.int .i64 n3) .no)], [[]] => S_hform_4 N vs0 N n1 n2 n3 (fun a0 a1 => K .ret [(.v (.bool a0) .no), (.v (.int .i64 a1) .no)] [[]]) (fun a0 => K (.exit 0) [.any, (.v (.int .i64 a0) .no)] [[]])
  | _, _ => none
noncomputable def s_hform (N : Nat) (x0 : List V) : Option (Bool) := S_hform_4 N x0 N (-1) 0 0 (fun b0 n1 => some b0) fun n2 => some (decide (n2 = 3))
noncomputable def cx_hform (N : Nat) : Cx := { T := T, isPure := tabP [⟨79, e_horder (s_horder N)⟩], pureK := fun g ds K => tabK [⟨79, e_horder (s_horder N)⟩] g ds K, memK := fun g dst ds m K => tabMK [] g dst ds m K, meth := tabM [], keep := fun r => match r with | 4 => [0, 3, 4, 5] | _ => [], keepX := fun r => match r with | 4 => [2, 4] | _ => [], loopT := fun r ds m K => match r with | 4 => l_hform_4 N ds m K | _ => none, jumps := 9 }
theorem F_hform_4_ok {R : Type} (N : Nat) (vs0 : List V) (n1 : Int) (n2 : Int) (n3 : Int) (L : List D → Mem → Option R) (K : Ex → List D → Mem → Option R) :
    roundK (fun st K => codeK (cx_hform N) (loopN Try.f53 0) st K) 67 [0, 3, 4, 5] [2, 4] L [(.v (.sl 62 vs0) .no), (.v (.int .i64 n1) .no), (.v (.int .i64 n2) .no), (.v (.int .i64 n3) .no)] [[]] K = F_hform_4 N vs0 (fun n1 n2 n3 => L [(.v (.sl 62 vs0) .no), (.v (.int .i64 n1) .no), (.v (.int .i64 n2) .no), (.v (.int .i64 n3) .no)] [[]]) (fun a0 a1 => K .ret [(.v (.bool a0) .no), (.v (.int .i64 a1) .no)] [[]]) (fun a0 => K (.exit 0) [.any, (.v (.int .i64 a0) .no)] [[]]) n1 n2 n3 := by
  kernel_rfl
theorem S_hform_4_ok {R : Type} (N : Nat) (vs0 : List V) (K : Ex → List D → Mem → Option R) : ∀ (t : Nat) (n1 : Int) (n2 : Int) (n3 : Int),
    loopK (fun st K => codeK (cx_hform N) (loopN Try.f53 0) st K) 67 [0, 3, 4, 5] [2, 4] t [(.v (.sl 62 vs0) .no), (.v (.int .i64 n1) .no), (.v (.int .i64 n2) .no), (.v (.int .i64 n3) .no)] [[]] K = S_hform_4 N vs0 t n1 n2 n3 (fun a0 a1 => K .ret [(.v (.bool a0) .no), (.v (.int .i64 a1) .no)] [[]]) (fun a0 => K (.exit 0) [.any, (.v (.int .i64 a0) .no)] [[]])
  | 0, n1, n2, n3 => rfl
  | t + 1, n1, n2, n3 => (F_hform_4_ok N vs0 n1 n2 n3 _ K).trans (congrArg (fun L => F_hform_4 N vs0 L (fun a0 a1 => K .ret [(.v (.bool a0) .no), (.v (.int .i64 a1) .no)] [[]]) (fun a0 => K (.exit 0) [.any, (.v (.int .i64 a0) .no)] [[]]) n1 n2 n3) (funext fun n1 => funext fun n2 => funext fun n3 => S_hform_4_ok N vs0 K t n1 n2 n3))
theorem s_hform_ok (N : Nat) (x0 : List V) : bodyK (cx_hform N) Try.f53 [.v (.sl 62 x0) .no] [] r_hform = s_hform N x0 := by
  kernel_rfl
theorem go_hform : Goes Try.prog 53 := goes_of Try.func53 (by kernel_rfl) (c := bodyOf Try.f53) (by kernel_rfl)
theorem eo_hform (s : List V → Option (Bool)) (hs : ∀ (x0 : List V) (r0 : Bool), s x0 = some r0 → PureRet Try.prog T 53 [.v (.sl 62 x0) .no] [.v (.bool r0) .no]) : EntOK Try.prog T ⟨53, e_hform s⟩ := by
  refine ⟨go_hform, fun R ds K r h => ?_, fun R ds K => ?_⟩
  · simp only [e_hform] at h
    split at h
    · obtain ⟨r0, h1, h2⟩ := bnd1_some h
      exact ⟨_, h2, hs _ _ h1⟩
    · cases h
  · simp only [e_hform]
    split
    · rw [bnd1_b]; rfl
    · rfl
theorem co_hform (N : Nat) : CxOK Try.prog (cx_hform N) :=
  cxOK_of2 (es := [⟨79, e_horder (s_horder N)⟩]) (me := []) (ms := []) T_ok ⟨eo_horder _ (p_horder N), trivial⟩ trivial trivial rfl (fun _ _ _ _ => rfl) (fun _ _ _ _ _ _ => rfl) rfl
theorem lk_hform_4 (N : Nat) : LoopOK (cx_hform N) 67 (loopN Try.f53 0) := by
  refine loopOK_of (rid := 4) (by kernel_rfl) rfl rfl fun R ds m K r h => ?_
  have h : l_hform_4 N ds m K = some r := h
  unfold l_hform_4 at h
  split at h
  · exact ⟨N, Eq.trans (S_hform_4_ok ..) h⟩
  · cases h
theorem lo_hform (N : Nat) : LoopsOK (cx_hform N) Try.f53.ntmps (bodyOf Try.f53) :=
  loopsOK_of (k := 1) (by kernel_rfl) ⟨trivial, lk_hform_4 N⟩
theorem p_hform (N : Nat) (x0 : List V) (r0 : Bool) (h : s_hform N x0 = some r0) : PureRet Try.prog T 53 [.v (.sl 62 x0) .no] [.v (.bool r0) .no] :=
  pure_of (cx := cx_hform N) (by kernel_rfl) (co_hform N) Try.func53 (by kernel_rfl) (by kernel_rfl) (lo_hform N) rfl rfl rfl (rf := r_hform) ((s_hform_ok N x0).trans h) (fun rs' m h => by
    unfold r_hform at h
    split at h
    · cases h; exact ⟨rfl, rfl⟩
    · cases h)
end Go.Proofs.Ytllnklkjkjmjbaa.En

/- Functions of the program in plain Lean, joined to the program by evaluation; printed by a program. -/
namespace Go.Proofs.Ytllnklkjkjmjbaa.En
open Go Go.Proofs
set_option maxRecDepth 100000
set_option linter.unusedVariables false
noncomputable def e_hSame {R : Type} (s : Int → Int → List UInt8 → Int → Int → Int → Int → Int → List V → Int → Int → List UInt8 → Int → Int → Int → Int → Int → List V → Option (Bool)) (ds : List D) (K : List D → Option R) : Option R :=
  match ds with
  | [.agg [.v (.int .i64 x0) .no, .v (.int .i64 x1) .no, .v (.bytes x2) .no, .v (.int .i64 x3) .no, .v (.int .i64 x4) .no, .v (.int .i64 x5) .no, .v (.int .i64 x6) .no, .v (.int .i64 x7) .no, .v (.sl 48 x8) .no], .agg [.v (.int .i64 x9) .no, .v (.int .i64 x10) .no, .v (.bytes x11) .no, .v (.int .i64 x12) .no, .v (.int .i64 x13) .no, .v (.int .i64 x14) .no, .v (.int .i64 x15) .no, .v (.int .i64 x16) .no, .v (.sl 48 x17) .no]] => bnd1 (s x0 x1 x2 x3 x4 x5 x6 x7 x8 x9 x10 x11 x12 x13 x14 x15 x16 x17) fun r0 => K [.v (.bool r0) .no]
  | _ => none
noncomputable def r_hSame (rs : List D) (_ : Mem) : Option (Bool) :=
  match rs with
  | [.v (.bool r0) _] => some (r0)
  | _ => none
noncomputable def s_hSame (N : Nat) (x0 : Int) (x1 : Int) (x2 : List UInt8) (x3 : Int) (x4 : Int) (x5 : Int) (x6 : Int) (x7 : Int) (x8 : List V) (x9 : Int) (x10 : Int) (x11 : List UInt8) (x12 : Int) (x13 : Int) (x14 : Int) (x15 : Int) (x16 : Int) (x17 : List V) : Option (Bool) := br (decide (x0 = x9)) (br (decide (x1 = x10)) (bnd1 (s_oSame N x2 x11) fun b0 => br b0 (br (decide (x3 = x12)) (br (decide (x4 = x13)) (br (decide (x5 = x14)) (br (decide (x6 = x15)) (br (decide (x7 = x16)) (bnd1 (s_qSame N x8 x17) fun b1 => some b1) (some false)) (some false)) (some false)) (some false)) (some false)) (some false)) (some false)) (some false)
noncomputable def cx_hSame (N : Nat) : Cx := { T := T, isPure := tabP [⟨16, e_oSame (s_oSame N)⟩, ⟨21, e_qSame (s_qSame N)⟩], pureK := fun g ds K => tabK [⟨16, e_oSame (s_oSame N)⟩, ⟨21, e_qSame (s_qSame N)⟩] g ds K, memK := fun g dst ds m K => tabMK [] g dst ds m K, meth := tabM [], keep := fun _ => [], keepX := fun _ => [], loopT := fun _ _ _ _ => none, jumps := 9 }
theorem s_hSame_ok (N : Nat) (x0 : Int) (x1 : Int) (x2 : List UInt8) (x3 : Int) (x4 : Int) (x5 : Int) (x6 : Int) (x7 : Int) (x8 : List V) (x9 : Int) (x10 : Int) (x11 : List UInt8) (x12 : Int) (x13 : Int) (x14 : Int) (x15 : Int) (x16 : Int) (x17 : List V) : bodyK (cx_hSame N) Try.f23 [.agg [.v (.int .i64 x0) .no, .v (.int .i64 x1) .no, .v (.bytes x2) .no, .v (.int .i64 x3) .no, .v (.int .i64 x4) .no, .v (.int .i64 x5) .no, .v (.int .i64 x6) .no, .v (.int .i64 x7) .no, .v (.sl 48 x8) .no], .agg [.v (.int .i64 x9) .no, .v (.int .i64 x10) .no, .v (.bytes x11) .no, .v (.int .i64 x12) .no, .v (.int .i64 x13) .no, .v (.int .i64 x14) .no, .v (.int .i64 x15) .no, .v (.int .i64 x16) .no, .v (.sl 48 x17) .no]] [] r_hSame = s_hSame N x0 x1 x2 x3 x4 x5 x6 x7 x8 x9 x10 x11 x12 x13 x14 x15 x16 x17 := by
  kernel_rfl
theorem go_hSame : Goes Try.prog 23 := goes_of Try.func23 (by kernel_rfl) (c := bodyOf Try.f23) (by kernel_rfl)
theorem eo_hSame (s : Int → Int → List UInt8 → Int → Int → Int → Int → Int → List V → Int → Int → List UInt8 → Int → Int → Int → Int → Int → List V → Option (Bool)) (hs : ∀ (x0 : Int) (x1 : Int) (x2 : List UInt8) (x3 : Int) (x4 : Int) (x5 : Int) (x6 : Int) (x7 : Int) (x8 : List V) (x9 : Int) (x10 : Int) (x11 : List UInt8) (x12 : Int) (x13 : Int) (x14 : Int) (x15 : Int) (x16 : Int) (x17 : List V) (r0 : Bool), s x0 x1 x2 x3 x4 x5 x6 x7 x8 x9 x10 x11 x12 x13 x14 x15 x16 x17 = some r0 → PureRet Try.prog T 23 [.agg [.v (.int .i64 x0) .no, .v (.int .i64 x1) .no, .v (.bytes x2) .no, .v (.int .i64 x3) .no, .v (.int .i64 x4) .no, .v (.int .i64 x5) .no, .v (.int .i64 x6) .no, .v (.int .i64 x7) .no, .v (.sl 48 x8) .no], .agg [.v (.int .i64 x9) .no, .v (.int .i64 x10) .no, .v (.bytes x11) .no, .v (.int .i64 x12) .no, .v (.int .i64 x13) .no, .v (.int .i64 x14) .no, .v (.int .i64 x15) .no, .v (.int .i64 x16) .no, .v (.sl 48 x17) .no]] [.v (.bool r0) .no]) : EntOK Try.prog T ⟨23, e_hSame s⟩ := by
  refine ⟨go_hSame, fun R ds K r h => ?_, fun R ds K => ?_⟩
  · simp only [e_hSame] at h
    split at h
    · obtain ⟨r0, h1, h2⟩ := bnd1_some h
      exact ⟨_, h2, hs _ _ _ _ _ _ _ _ _ _ _ _ _ _ _ _ _ _ _ h1⟩
    · cases h
  · simp only [e_hSame]
    split
    · rw [bnd1_b]; rfl
    · rfl
theorem co_hSame (N : Nat) : CxOK Try.prog (cx_hSame N) :=
  cxOK_of2 (es := [⟨16, e_oSame (s_oSame N)⟩, ⟨21, e_qSame (s_qSame N)⟩]) (me := []) (ms := []) T_ok ⟨eo_oSame _ (p_oSame N), eo_qSame _ (p_qSame N), trivial⟩ trivial trivial rfl (fun _ _ _ _ => rfl) (fun _ _ _ _ _ _ => rfl) rfl
theorem lo_hSame (N : Nat) : LoopsOK (cx_hSame N) Try.f23.ntmps (bodyOf Try.f23) :=
  loopsOK_of (k := 0) (by kernel_rfl) trivial
theorem p_hSame (N : Nat) (x0 : Int) (x1 : Int) (x2 : List UInt8) (x3 : Int) (x4 : Int) (x5 : Int) (x6 : Int) (x7 : Int) (x8 : List V) (x9 : Int) (x10 : Int) (x11 : List UInt8) (x12 : Int) (x13 : Int) (x14 : Int) (x15 : Int) (x16 : Int) (x17 : List V) (r0 : Bool) (h : s_hSame N x0 x1 x2 x3 x4 x5 x6 x7 x8 x9 x10 x11 x12 x13 x14 x15 x16 x17 = some r0) : PureRet Try.prog T 23 [.agg [.v (.int .i64 x0) .no, .v (.int .i64 x1) .no, .v (.bytes x2) .no, .v (.int .i64 x3) .no, .v (.int .i64 x4) .no, .v (.int .i64 x5) .no, .v (.int .i64 x6) .no, .v (.int .i64 x7) .no, .v (.sl 48 x8) .no], .agg [.v (.int .i64 x9) .no, .v (.int .i64 x10) .no, .v (.bytes x11) .no, .v (.int .i64 x12) .no, .v (.int .i64 x13) .no, .v (.int .i64 x14) .no, .v (.int .i64 x15) .no, .v (.int .i64 x16) .no, .v (.sl 48 x17) .no]] [.v (.bool r0) .no] :=
  pure_of (cx := cx_hSame N) (by kernel_rfl) (co_hSame N) Try.func23 (by kernel_rfl) (by kernel_rfl) (lo_hSame N) rfl rfl rfl (rf := r_hSame) ((s_hSame_ok N x0 x1 x2 x3 x4 x5 x6 x7 x8 x9 x10 x11 x12 x13 x14 x15 x16 x17).trans h) (fun rs' m h => by
    unfold r_hSame at h
    split at h
    · cases h; exact ⟨rfl, rfl⟩
    · cases h)
end Go.Proofs.Ytllnklkjkjmjbaa.En

/- The printed functions, together. -/

/- Words for the plain laws: branches, numbers, bits, places in a list. No program in sight. -/
namespace Go.Proofs.Ytllnklkjkjmjbaa.En
open Go
set_option linter.unusedVariables false
section
variable {R α β γ δ : Type}
theorem br_t (x y : Option R) : br true x y = x := id rfl
theorem br_f (x y : Option R) : br false x y = y := id rfl
theorem br_dec (p : Prop) [Decidable p] (x y : Option R) : br (decide p) x y = if p then x else y := by
  by_cases h : p <;> simp [br, h]
theorem br_not (c : Bool) (x y : Option R) : br (!c) x y = br c y x := by cases c <;> rfl
theorem br_and (a b : Bool) (x y : Option R) : br (a && b) x y = br a (br b x y) y := by cases a <;> rfl
theorem br_or (a b : Bool) (x y : Option R) : br (a || b) x y = br a x (br b x y) := by cases a <;> rfl
theorem bnd1_mk (a : α) (K : α → Option R) : bnd1 (some a) K = K a := id rfl
theorem bnd2_mk (a : α) (b : β) (K : α → β → Option R) : bnd2 (some (a, b)) K = K a b := id rfl
theorem bnd3_mk (a : α) (b : β) (c : γ) (K : α → β → γ → Option R) : bnd3 (some (a, b, c)) K = K a b c := id rfl
theorem bnd4_mk (a : α) (b : β) (c : γ) (d : δ) (K : α → β → γ → δ → Option R) : bnd4 (some (a, b, c, d)) K = K a b c d := id rfl
theorem bnd10_mk {a1 a2 a3 a4 a5 a6 a7 a8 a9 a10 : Type} (a : a1) (b : a2) (c : a3) (d : a4) (e : a5) (f : a6) (g : a7) (h : a8) (i : a9) (j : a10) (K : a1 → a2 → a3 → a4 → a5 → a6 → a7 → a8 → a9 → a10 → Option R) : bnd10 (some (a, b, c, d, e, f, g, h, i, j)) K = K a b c d e f g h i j := id rfl
theorem bnd5_mk {ε : Type} (a : α) (b : β) (c : γ) (d : δ) (e : ε) (K : α → β → γ → δ → ε → Option R) : bnd5 (some (a, b, c, d, e)) K = K a b c d e := id rfl
theorem at_of {xs : List α} {i : Nat} {x : α} (h : xs[i]? = some x) (K : α → Option R) : at? xs i K = K x := by simp [at?, h]
theorem at_zero (x : α) (r : List α) (K : α → Option R) : at? (x :: r) 0 K = K x := id rfl
theorem at_succ (x : α) (r : List α) (i : Nat) (K : α → Option R) : at? (x :: r) (i + 1) K = at? r i K := by simp [at?]
theorem at_mid (pre : List α) (x : α) (suf : List α) (K : α → Option R) : at? (pre ++ x :: suf) pre.length K = K x := at_of (by simp) K
theorem unInt_mk (k : IntKind) (n : Int) (K : Int → Option R) : V.unInt k (.int k n) K = K n := by simp [V.unInt]
theorem unBool_mk (b : Bool) (K : Bool → Option R) : V.unBool (.bool b) K = K b := id rfl
theorem unStr_mk (s : List UInt8) (K : List UInt8 → Option R) : V.unStr (.str s) K = K s := id rfl
theorem unBytes_mk (s : List UInt8) (K : List UInt8 → Option R) : V.unBytes (.bytes s) K = K s := id rfl
theorem unSl_mk (e : TypeId) (s : List V) (K : List V → Option R) : V.unSl e (.sl e s) K = K s := by simp [V.unSl]
theorem unAgg_mk (s : List V) (K : List V → Option R) : V.unAgg (.agg s) K = K s := id rfl
theorem unCons_mk (x : V) (r : List V) (K : V → List V → Option R) : unCons (x :: r) K = K x r := id rfl
theorem unNil_mk (K : Option R) : unNil [] K = K := id rfl
end
/-! Numbers -/
theorem w64 {n : Int} (h1 : -9223372036854775808 ≤ n) (h2 : n ≤ 9223372036854775807) : IntKind.i64.wrap n = n := by
  rw [IntKind.wrap_i64]; omega
theorem w64_u8 (u : UInt8) : IntKind.i64.wrap (u.toNat : Int) = u.toNat := by
  have := u.toNat_lt; exact w64 (by omega) (by omega)
theorem u8_lt (u : UInt8) : (u.toNat : Int) < 256 := by have := u.toNat_lt; omega
theorem wu8 (n : Int) : IntKind.u8.wrap n = n % 256 := IntKind.wrap_u8 n
theorem ofInt_toNat64 (a : Int) : (BitVec.ofInt 64 a).toNat = (a % 18446744073709551616).toNat := by
  rw [BitVec.toNat_ofInt]; rfl
theorem fdiv_pos (a b : Int) (h : 0 < b) : a.fdiv b = a / b := by rw [Int.fdiv_eq_ediv_of_nonneg _ (by omega)]
theorem shr8 (a : Int) : shrI .i64 a 8 = a / 256 := by
  show a.fdiv (2 ^ (min (8 : Int).toNat 64)) = _
  exact fdiv_pos a 256 (by omega)
/-- a & (2^k - 1) -/
theorem and_mask (a : Int) (k : Nat) (hk : k ≤ 62) : bitsI .and .i64 a ((2 ^ k - 1 : Nat) : Int) = a % (2 ^ k : Nat) := by
  have hp : (2 ^ k : Nat) ≤ 2 ^ 62 := Nat.pow_le_pow_right (by omega) hk
  have h0 : 0 < 2 ^ k := Nat.pos_of_ne_zero (by simp)
  have e1 : (BitVec.ofInt 64 ((2 ^ k - 1 : Nat) : Int)).toNat = 2 ^ k - 1 := by
    rw [ofInt_toNat64]; omega
  have e2 : (BitVec.ofInt 64 a &&& BitVec.ofInt 64 ((2 ^ k - 1 : Nat) : Int)).toNat = (a % 18446744073709551616).toNat % 2 ^ k := by
    rw [BitVec.toNat_and, e1, ofInt_toNat64, Nat.and_two_pow_sub_one_eq_mod]
  have hd : (2 ^ k : Nat) ∣ 18446744073709551616 := by
    have : (18446744073709551616 : Nat) = 2 ^ 64 := by decide
    rw [this]; exact Nat.pow_dvd_pow 2 (by omega)
  have e3 : ((((a % 18446744073709551616).toNat % 2 ^ k : Nat)) : Int) = a % (2 ^ k : Nat) := by
    rw [Int.natCast_emod]
    rw [Int.toNat_of_nonneg (Int.emod_nonneg _ (by omega))]
    have hd' : ((2 ^ k : Nat) : Int) ∣ ((18446744073709551616 : Nat) : Int) := Int.natCast_dvd_natCast.2 hd
    exact Int.emod_emod_of_dvd a hd'
  show IntKind.i64.wrap ((BitVec.ofInt 64 a &&& BitVec.ofInt 64 _).toNat : Int) = _
  rw [e2, e3]
  have := Int.emod_nonneg a (b := ((2 ^ k : Nat) : Int)) (by omega)
  have := Int.emod_lt_of_pos a (b := ((2 ^ k : Nat) : Int)) (by omega)
  exact w64 (by omega) (by omega)
theorem and31 (a : Int) : bitsI .and .i64 a 31 = a % 32 := and_mask a 5 (by omega)
theorem and255 (a : Int) : bitsI .and .i64 a 255 = a % 256 := and_mask a 8 (by omega)
theorem and_two_pow' (m k : Nat) : m &&& 2 ^ k = 2 ^ k * (m / 2 ^ k % 2) := by
  apply Nat.eq_of_testBit_eq
  intro i
  rw [Nat.testBit_and, Nat.testBit_two_pow, Nat.mul_comm, ← Nat.shiftLeft_eq, Nat.testBit_shiftLeft]
  have h2 : m / 2 ^ k % 2 = (m.testBit k).toNat := by
    rw [Nat.testBit_eq_decide_div_mod_eq]
    have : m / 2 ^ k % 2 < 2 := Nat.mod_lt _ (by omega)
    rcases (by omega : m / 2 ^ k % 2 = 0 ∨ m / 2 ^ k % 2 = 1) with h | h <;> simp [h]
  rw [h2]
  by_cases hk : k = i
  · subst hk; cases m.testBit k <;> simp
  · simp only [hk, decide_false, Bool.and_false]
    by_cases hl : k ≤ i
    · obtain ⟨j, rfl⟩ : ∃ j, i = k + (j + 1) := ⟨i - k - 1, by omega⟩
      rw [show k + (j + 1) - k = j + 1 by omega]
      cases m.testBit k <;> simp [Nat.testBit_succ]
    · simp [hl]
/-- a & 2^k -/
theorem and_bit (a : Int) (k : Nat) (hk : k ≤ 62) : bitsI .and .i64 a ((2 ^ k : Nat) : Int) = (2 ^ k : Nat) * (a / (2 ^ k : Nat) % 2) := by
  have hp : (2 ^ k : Nat) ≤ 2 ^ 62 := Nat.pow_le_pow_right (by omega) hk
  have h0 : 0 < 2 ^ k := Nat.pos_of_ne_zero (by simp)
  have e1 : (BitVec.ofInt 64 ((2 ^ k : Nat) : Int)).toNat = 2 ^ k := by rw [ofInt_toNat64]; omega
  generalize hm : (a % 18446744073709551616).toNat = m
  have e2 : (BitVec.ofInt 64 a &&& BitVec.ofInt 64 ((2 ^ k : Nat) : Int)).toNat = 2 ^ k * (m / 2 ^ k % 2) := by
    rw [BitVec.toNat_and, e1, ofInt_toNat64, hm, and_two_pow']
  have hd : (2 ^ (k + 1) : Nat) ∣ 18446744073709551616 := by
    have : (18446744073709551616 : Nat) = 2 ^ 64 := by decide
    rw [this]; exact Nat.pow_dvd_pow 2 (by omega)
  have e3 : ((m / 2 ^ k % 2 : Nat) : Int) = a / (2 ^ k : Nat) % 2 := by
    have hmi : (m : Int) = a % 18446744073709551616 := by rw [← hm, Int.toNat_of_nonneg (Int.emod_nonneg _ (by omega))]
    obtain ⟨q, hq⟩ := hd
    have hq' : (18446744073709551616 : Int) = ((2 ^ k : Nat) : Int) * (2 * (q : Int)) := by
      have : (18446744073709551616 : Nat) = 2 ^ k * (2 * q) := by rw [hq, Nat.pow_succ, Nat.mul_assoc]
      rw [show (18446744073709551616 : Int) = ((18446744073709551616 : Nat) : Int) by rfl, this]; push_cast; rfl
    rw [Int.natCast_emod, Int.natCast_ediv, hmi]
    have ha := Int.emod_add_mul_ediv a 18446744073709551616
    generalize a / 18446744073709551616 = z at ha
    have e : a = a % 18446744073709551616 + ((2 ^ k : Nat) : Int) * (2 * (q : Int) * z) := by
      rw [← Int.mul_assoc, ← hq']; omega
    conv => rhs; rw [e]
    rw [Int.add_mul_ediv_left _ _ (by omega)]
    rw [show (2 : Int) * (q : Int) * z = (q * z) * 2 by rw [Int.mul_assoc, Int.mul_comm]]
    exact (Int.add_mul_emod_self_right _ _ _).symm
  show IntKind.i64.wrap ((BitVec.ofInt 64 a &&& BitVec.ofInt 64 _).toNat : Int) = _
  rw [e2]
  have h2 : ((2 ^ k * (m / 2 ^ k % 2) : Nat) : Int) = (2 ^ k : Nat) * (a / (2 ^ k : Nat) % 2) := by rw [Int.natCast_mul, e3]
  rw [h2]
  have : a / ((2 ^ k : Nat) : Int) % 2 = 0 ∨ a / ((2 ^ k : Nat) : Int) % 2 = 1 := by omega
  rcases this with h | h <;> rw [h] <;> exact w64 (by omega) (by omega)
theorem and32 (a : Int) : bitsI .and .i64 a 32 = 32 * (a / 32 % 2) := and_bit a 5 (by omega)
/-- a << 8 | b -/
theorem shl8_or (a b : Int) (h1 : 0 ≤ a) (h2 : a < 36028797018963968) (h3 : 0 ≤ b) (h4 : b < 256) : bitsI .or .i64 (shlI .i64 a 8) b = 256 * a + b := by
  have e0 : shlI .i64 a 8 = 256 * a := by
    show IntKind.i64.wrap (a * 2 ^ (min (8 : Int).toNat 64)) = _
    rw [show (2 : Int) ^ (min (8 : Int).toNat 64) = 256 from rfl, w64 (by omega) (by omega)]; omega
  obtain ⟨x, rfl⟩ := Int.eq_ofNat_of_zero_le h1
  obtain ⟨y, rfl⟩ := Int.eq_ofNat_of_zero_le h3
  have e1 : (BitVec.ofInt 64 (256 * (x : Int))).toNat = x <<< 8 := by
    rw [ofInt_toNat64, Nat.shiftLeft_eq]; omega
  have e2 : (BitVec.ofInt 64 (y : Int)).toNat = y := by rw [ofInt_toNat64]; omega
  rw [e0]
  show IntKind.i64.wrap ((BitVec.ofInt 64 (256 * (x : Int)) ||| BitVec.ofInt 64 (y : Int)).toNat : Int) = _
  rw [BitVec.toNat_or, e1, e2, ← Nat.shiftLeft_add_eq_or_of_lt (by omega), Nat.shiftLeft_eq]
  rw [w64 (by omega) (by omega)]; omega
theorem or0 (b : Int) (h3 : 0 ≤ b) (h4 : b < 256) : bitsI .or .i64 0 b = b := by
  have := shl8_or 0 b (by omega) (by omega) h3 h4
  have e : shlI .i64 0 8 = 0 := by decide
  rw [e] at this; omega
end Go.Proofs.Ytllnklkjkjmjbaa.En

/- The engine, part 2r: what an argument that came in reads as. No program in sight. -/
namespace Go.Proofs.Ytllnklkjkjmjbaa.En
open Go Go.RowKit
set_option linter.unusedVariables false
/-- A world of arguments: nothing is written. -/
def immG (T : TypeId → Option Ty) : G := { Γ := fun _ => .imm, J := fun _ _ => 0, sz := sizes T }
theorem stable_imm (T : TypeId → Option Ty) (b o : Nat) : Stable (immG T) b o := trivial
/-- An element, given its cells. -/
def mkEl (row : Bool) (cs : List V) : V := match row with | true => .agg cs | false => cs.headD .nilI
/-- Cells that have the shape of a type. -/
def FitsFs (F : TypeId → List V → Prop) : List Field → List V → Prop
  | [], xs => xs = []
  | f :: fs, xs => ∃ a r, xs = a ++ r ∧ F f.type a ∧ FitsFs F fs r
def Fits (T : TypeId → Option Ty) : Nat → TypeId → List V → Prop
  | 0, _, _ => False
  | n + 1, t, xs => match T t with
    | none => False
    | some ty => match ty.desc with
      | .bool => ∃ b, xs = [.bool b]
      | .int k => ∃ i, xs = [.int k i] ∧ k.min ≤ i ∧ i ≤ k.max
      | .string => ∃ s, xs = [.str s] ∧ s.length ≤ maxLen
      | .slice e => match ty.cks with
        | [.bytes _] => ∃ s, xs = [.bytes s] ∧ s.length ≤ maxLen
        | [.slc e'] => e' = e ∧ ∃ ys, xs = [.sl e ys] ∧ ys.length ≤ maxLen ∧ ∀ y ∈ ys, ∃ te cs, T e = some te ∧ y = mkEl te.row cs ∧ Fits T n e cs
        | _ => False
      | .struct fs => FitsFs (Fits T n) fs.toList xs
      | _ => False
/-- A type that is read. -/
def readable (T : TypeId → Option Ty) (t : TypeId) : Bool :=
  match T t with
  | none => false
  | some ty => match ty.desc with
    | .bool => true
    | .int _ => true
    | .string => true
    | .slice e => (match T e with
      | none => false
      | some te => (match ty.cks with
        | [.bytes _] => (match te.desc with | .int .u8 => Nat.beq te.size 1 | _ => false)
        | [.slc e'] => Nat.beq e' e && Nat.ble 1 te.size && (match te.row with | true => true | false => Nat.beq te.size 1)
        | _ => false))
    | .struct fs => contigT T ty.size 0 fs.toList && fs.toList.all (fun f => match T f.type with | some _ => true | none => false)
    | _ => false
/-- The types that a type leads to. -/
def closedT (T : TypeId → Option Ty) (l : List TypeId) : Bool :=
  l.all fun t => readable T t && (match T t with
    | none => false
    | some ty => match ty.desc with
      | .slice e => l.any (Nat.beq e)
      | .struct fs => fs.toList.all fun f => l.any (Nat.beq f.type)
      | _ => true)
section
variable {H : Type} {enc : TypeId × Value → H} {P : Program} {T : TypeId → Option Ty} {w : World} {base : Nat} {spare : Nat → Bool} {held : Bool}
structure RepC (T : TypeId → Option Ty) (w : World) (xs : List V) (cs : List Value) : Prop where
  len : xs.length = cs.length
  one : ∀ x ∈ xs, x.one = true
  rep : ∀ (k : Nat) y, xs[k]? = some y → RepV (immG T) w y (cs.getD k undef)
theorem RepC.single {x : V} {v : Value} (h1 : x.one = true) (h : RepV (immG T) w x v) : RepC T w [x] [v] :=
  ⟨rfl, fun y hy => by simp at hy; subst hy; exact h1, fun k y hk => by
    rcases k with _ | k
    · simp at hk; subst hk; simpa using h
    · simp at hk⟩
theorem RepC.append {xs ys : List V} {cs ds : List Value} (h : RepC T w xs cs) (k : RepC T w ys ds) : RepC T w (xs ++ ys) (cs ++ ds) := by
  refine ⟨by simp [h.len, k.len], fun x hx => ?_, fun i y hy => ?_⟩
  · rcases List.mem_append.1 hx with hx | hx
    · exact h.one x hx
    · exact k.one x hx
  · rcases Nat.lt_or_ge i xs.length with hl | hl
    · rw [List.getElem?_append_left hl] at hy
      have := h.rep i y hy
      rw [List.getD_eq_getElem?_getD, List.getElem?_append_left (by rw [← h.len]; exact hl), ← List.getD_eq_getElem?_getD]
      exact this
    · rw [List.getElem?_append_right hl] at hy
      have := k.rep _ y hy
      rw [List.getD_eq_getElem?_getD, List.getElem?_append_right (by rw [← h.len]; exact hl), ← h.len, ← List.getD_eq_getElem?_getD]
      exact this
theorem cellsOf_eq (hT : TypesOK P T) {t : TypeId} {ty : Ty} (h : T t = some ty) : P.cellsOf t = ty.size := by
  obtain ⟨i, h1, _, h2, _⟩ := (hT t ty h).info
  simp [Program.cellsOf, h1, h2]
theorem sizes_eq {t : TypeId} {ty : Ty} (h : T t = some ty) : sizes T t = ty.size := by unfold sizes; rw [h]
theorem add_none (b off i : Nat) : (⟨b, off, none⟩ : Addr).add i = ⟨b, off + i, none⟩ := by
  unfold Addr.add
  by_cases h0 : i = 0
  · subst h0; rfl
  · rw [if_neg h0]
theorem spot_row {a : Addr} {n k : Nat} {cs : List Value} (h : w.cells? base (a.add (0 * n)) k = some cs) (hk : 0 < k) : a.spot = none := by
  obtain ⟨_, hl, h5⟩ := World.cells?_some h
  have h6 := h5 0 hk
  rw [List.getElem?_eq_getElem (by omega)] at h6
  have := World.cell?_spot h6
  simpa [Addr.add] using this
theorem mkEl_cells {row : Bool} {cs : List V} (ho : ∀ x ∈ cs, x.one = true) (h : row = false → cs.length = 1) : (mkEl row cs).cells = cs := by
  cases row with
  | true => rfl
  | false =>
    have := h rfl
    match cs, this with
    | [x], _ =>
      have := ho x (by simp)
      show V.cells x = [x]
      cases x <;> first | rfl | cases this
theorem okEl_mk {row : Bool} {cs : List V} {n : Nat} (hl : cs.length = n) (ho : ∀ x ∈ cs, x.one = true) (h : row = false → cs.length = 1) : okEl n (mkEl row cs) = true := by
  unfold okEl
  rw [mkEl_cells ho h]
  simp only [Bool.and_eq_true, beq_iff_eq, List.all_eq_true]
  exact ⟨hl, ho⟩
theorem flatT_get {α : Type} {n : Nat} : ∀ (l : List (List α)) (i j : Nat) (c : List α), (∀ c ∈ l, c.length = n) → l[i]? = some c → j < n → l.flatten[i * n + j]? = c[j]?
  | [], i, j, c, _, h, _ => by simp at h
  | d :: l, 0, j, c, hl, h, hj => by
    simp at h; subst h
    have := hl d (by simp)
    rw [List.flatten_cons, Nat.zero_mul, Nat.zero_add, List.getElem?_append_left (by omega)]
  | d :: l, i + 1, j, c, hl, h, hj => by
    have hd := hl d (by simp)
    rw [List.flatten_cons, Nat.succ_mul, List.getElem?_append_right (by omega)]
    rw [show i * n + n + j - d.length = i * n + j by omega]
    exact flatT_get l i j c (fun c hc => hl c (by simp [hc])) (by simpa using h) hj
theorem flatT_len {α : Type} {n : Nat} : ∀ (l : List (List α)), (∀ c ∈ l, c.length = n) → l.flatten.length = l.length * n
  | [], _ => by simp
  | d :: l, h => by
    rw [List.flatten_cons, List.length_append, h d (by simp), flatT_len l fun c hc => h c (by simp [hc]), List.length_cons, Nat.succ_mul]; omega
theorem choose_list {α : Type} {p : Nat → α → Prop} : ∀ (n : Nat), (∀ i, i < n → ∃ a, p i a) → ∃ l : List α, l.length = n ∧ ∀ (i : Nat) a, l[i]? = some a → p i a
  | 0, _ => ⟨[], rfl, fun i a h => by simp at h⟩
  | n + 1, h => by
    obtain ⟨l, h1, h2⟩ := choose_list n fun i hi => h i (by omega)
    obtain ⟨a, ha⟩ := h n (by omega)
    refine ⟨l ++ [a], by simp [h1], fun i b hb => ?_⟩
    rcases Nat.lt_or_ge i l.length with hl | hl
    · rw [List.getElem?_append_left hl] at hb; exact h2 i b hb
    · rw [List.getElem?_append_right hl] at hb
      have : i = n := by
        have := (List.getElem?_eq_some_iff.1 hb).1
        simp at this; omega
      subst this
      rw [h1] at hb
      simp at hb
      subst hb; exact ha
theorem trod_rep (hT : TypesOK P T) {l : List TypeId} (hl : closedT T l = true) : ∀ (fuel : Nat) (t : TypeId) (cs : List Value) (x : DataW H × List MemPlace), t ∈ l → DataW.trod enc P w base spare held fuel t cs = some x →
    ∃ xs, RepC T w xs cs ∧ Fits T fuel t xs ∧ ∀ ty, T t = some ty → cs.length = ty.size
  | 0, t, cs, x, _, h => by simp [DataW.trod] at h
  | n + 1, t, cs, x, hm, h => by
    have hcl := List.all_eq_true.1 hl t hm
    simp only [Bool.and_eq_true] at hcl
    obtain ⟨hre, hlead⟩ := hcl
    unfold Fits
    unfold readable at hre
    cases hTt : T t with
    | none => rw [hTt] at hre; simp at hre
    | some ty =>
    rw [hTt] at hre hlead
    simp only at hre hlead ⊢
    have hd := (hT t ty hTt).desc
    have h1c : ty.row = false → ty.size = 1 := (hT t ty hTt).one
    cases hdesc : ty.desc <;> rw [hdesc] at hre hlead hd <;> simp only [Bool.false_eq_true] at hre hlead ⊢
    · obtain ⟨b, rfl, _⟩ := DataW.trod_bool hd h
      exact ⟨[.bool b], .single rfl (.bool b), ⟨b, rfl⟩, fun ty' e => by cases e; rw [h1c (by simp [Ty.row, hdesc])]; rfl⟩
    · rename_i k
      obtain ⟨i, rfl, _, hwf⟩ := DataW.trod_int hd h
      have hb : k.min ≤ i ∧ i ≤ k.max := by simpa [Lit.wf] using hwf
      exact ⟨[.int k i], .single rfl (.int k i hb), ⟨i, rfl, hb⟩, fun ty' e => by cases e; rw [h1c (by simp [Ty.row, hdesc])]; rfl⟩
    · obtain ⟨s, rfl, _, hs⟩ := DataW.trod_string hd h
      have e : s = ⟨s.data.toList.toArray⟩ := by cases s; simp
      have hsl : s.data.toList.length = s.size := by cases s; rfl
      refine ⟨[.str s.data.toList], .single rfl ?_, ⟨_, rfl, by rw [hsl]; exact hs⟩, fun ty' e => by cases e; rw [h1c (by simp [Ty.row, hdesc])]; rfl⟩
      have := RepV.str (g := immG T) (w := w) s.data.toList (by rw [hsl]; unfold maxLen at hs; omega)
      rwa [← e] at this
    · rename_i e
      cases hTe : T e with
      | none => rw [hTe] at hre; simp at hre
      | some te =>
      rw [hTe] at hre
      simp only at hre
      have hsz := cellsOf_eq hT hTe
      have hmem : e ∈ l := by
        obtain ⟨z, hz, hb⟩ := List.any_eq_true.1 hlead
        have := Nat.eq_of_beq_eq_true hb
        subst this; exact hz
      have hsize : ∀ ty', some ty = some ty' → ∀ v : Value, [v].length = ty'.size := fun ty' e v => by cases e; rw [h1c (by simp [Ty.row, hdesc])]; rfl
      split at hre
      · rename_i e0 hcks
        split at hre
        · rename_i hte
          have hte1 := Nat.eq_of_beq_eq_true hre
          rw [hte1] at hsz
          have hde := (hT e te hTe).desc
          rw [hte] at hde
          rcases DataW.trod_slice hd h with ⟨rfl, _⟩ | ⟨a, len, cap, elems, rest, m, e1, rfl, _, hb, hlc, hcm, hel, hget, _, _⟩
          · exact ⟨[.bytes []], .single rfl (.bytes [] none 0 0 rfl (Nat.le_refl _) (by simp) (fun k x hx => by simp at hx)), ⟨[], rfl, by simp⟩, fun ty' e => hsize ty' e _⟩
          · have key : ∀ i, i < len → ∃ b : UInt8, ∃ bb off, a = ⟨bb, off, none⟩ ∧ w.cell? ⟨bb, off + i, none⟩ = some (.int .u8 (b.toNat : Int)) := by
              intro i hi
              have h2 := hget i hi
              rw [List.getElem?_eq_getElem (by rw [hel]; exact hi), Option.bind_eq_some_iff] at h2
              obtain ⟨cs, h3, h4⟩ := h2
              obtain ⟨z, rfl, _, hwf⟩ := DataW.trod_int hde h4
              rw [hsz, Nat.mul_one] at h3
              obtain ⟨_, _, h5⟩ := World.cells?_some h3
              have h6 := h5 0 (by omega)
              simp at h6
              have hzr : 0 ≤ z ∧ z ≤ 255 := by simpa [Lit.wf, IntKind.min, IntKind.max, IntKind.signed, IntKind.bits] using hwf
              have hspn : a.spot = none := by
                have h2 := hget 0 (by omega)
                rw [List.getElem?_eq_getElem (by omega), Option.bind_eq_some_iff] at h2
                obtain ⟨cs, h3, _⟩ := h2
                exact spot_row h3 (by omega)
              obtain ⟨bb, off, sp⟩ := a
              simp only at hspn
              subst hspn
              refine ⟨UInt8.ofNat z.toNat, bb, off, rfl, ?_⟩
              rw [add_none] at h6
              have hz2 : (off + i + 0) = off + i := rfl
              rw [show ((UInt8.ofNat z.toNat).toNat : Int) = z by rw [UInt8.toNat_ofNat', Nat.mod_eq_of_lt (by omega)]; omega]
              simpa [Addr.add] using h6
            obtain ⟨bs, b1, b2⟩ := choose_list len key
            refine ⟨[.bytes bs], .single rfl (.bytes bs (some a) len cap b1 hlc hcm fun k x hx => ?_), ⟨bs, rfl, by omega⟩, fun ty' e => hsize ty' e _⟩
            obtain ⟨bb, off, c1, c2⟩ := b2 k x hx
            exact ⟨bb, off, by rw [c1], stable_imm T _ _, c2⟩
        · cases hre
      · rename_i e0 hcks
        simp only [Bool.and_eq_true] at hre
        obtain ⟨⟨he0, hte1⟩, hrow⟩ := hre
        have he0 := Nat.eq_of_beq_eq_true he0
        have hte1 := Nat.le_of_ble_eq_true hte1
        have hrow1 : te.row = false → te.size = 1 := (hT e te hTe).one
        have hszs : (immG T).sz e = te.size := sizes_eq hTe
        rcases DataW.trod_slice hd h with ⟨rfl, _⟩ | ⟨a, len, cap, elems, rest, m, e1, rfl, _, hb, hlc, hcm, hel, hget, _, _⟩
        · exact ⟨[.sl e []], .single rfl (.sl e [] none 0 0 (fun _ => undef) rfl (Nat.le_refl _) (by simp) (by simp) (fun k y hy => by simp at hy) (fun k y hy => by simp at hy)), ⟨he0, [], rfl, by simp, by simp⟩, fun ty' e => hsize ty' e _⟩
        · obtain rfl : n = m := by omega
          have key : ∀ i, i < len → ∃ p : List V × List Value, RepC T w p.1 p.2 ∧ Fits T n e p.1 ∧ p.2.length = te.size ∧ ∃ bb off, a = ⟨bb, off, none⟩ ∧ ∀ j, j < te.size → w.cell? ⟨bb, off + (i * te.size + j), none⟩ = some (p.2.getD j undef) := by
            intro i hi
            have h2 := hget i hi
            rw [List.getElem?_eq_getElem (by rw [hel]; exact hi), Option.bind_eq_some_iff] at h2
            obtain ⟨cs, h3, h4⟩ := h2
            obtain ⟨xs, c1, c2, c3⟩ := trod_rep hT hl n e cs _ hmem h4
            have c3 := c3 te hTe
            rw [hsz] at h3
            obtain ⟨_, _, h5⟩ := World.cells?_some h3
            have hspn : a.spot = none := by
              have h2 := hget 0 (by omega)
              rw [List.getElem?_eq_getElem (by omega), Option.bind_eq_some_iff] at h2
              obtain ⟨cs, h3, _⟩ := h2
              exact spot_row h3 (by omega)
            obtain ⟨bb, off, sp⟩ := a
            simp only at hspn
            subst hspn
            refine ⟨(xs, cs), c1, c2, c3, bb, off, rfl, fun j hj => ?_⟩
            have h7 := h5 j hj
            rw [add_none, add_none, Nat.add_assoc] at h7
            rw [h7, List.getD_eq_getElem?_getD]
            show cs[j]? = some (cs[j]?.getD undef)
            rw [List.getElem?_eq_getElem (by omega)]; rfl
          obtain ⟨ps, b1, b2⟩ := choose_list len key
          have hxl : ∀ p ∈ ps, p.1.length = te.size ∧ ∀ x ∈ p.1, x.one = true := by
            intro p hp
            obtain ⟨i, hi⟩ := List.getElem?_of_mem hp
            obtain ⟨c1, _, c3, _⟩ := b2 i p hi
            exact ⟨by rw [c1.len, c3], c1.one⟩
          have hcells : ∀ p ∈ ps, (mkEl te.row p.1).cells = p.1 := fun p hp => mkEl_cells (hxl p hp).2 fun hr => by rw [(hxl p hp).1, hrow1 hr]
          have hflat : (ps.map fun p => mkEl te.row p.1).flatMap V.cells = (ps.map (·.1)).flatten := by
            rw [List.flatMap_def, List.map_map]
            congr 1
            exact List.map_congr_left fun p hp => hcells p hp
          have hall : ∀ c ∈ ps.map (·.1), c.length = te.size := fun c hc => by
            obtain ⟨p, hp, rfl⟩ := List.mem_map.1 hc
            exact (hxl p hp).1
          have hlook : ∀ (k : Nat) (y : V), ((ps.map fun p => mkEl te.row p.1).flatMap V.cells)[k]? = some y → ∃ i j p, k = i * te.size + j ∧ j < te.size ∧ ps[i]? = some p ∧ p.1[j]? = some y := by
            intro k y hk
            rw [hflat] at hk
            have hk1 := (List.getElem?_eq_some_iff.1 hk).1
            rw [flatT_len _ hall, List.length_map, b1] at hk1
            have hpos : 0 < te.size := by omega
            have hi : k / te.size < len := (Nat.div_lt_iff_lt_mul hpos).2 hk1
            have hj : k % te.size < te.size := Nat.mod_lt _ hpos
            have hkk : k = k / te.size * te.size + k % te.size := by rw [Nat.mul_comm]; exact (Nat.div_add_mod k te.size).symm
            have hp : ps[k / te.size]? = some (ps[k / te.size]'(by omega)) := List.getElem?_eq_getElem (by omega)
            refine ⟨k / te.size, k % te.size, _, hkk, hj, hp, ?_⟩
            rw [hkk] at hk
            rw [flatT_get _ _ _ _ hall (by rw [List.getElem?_map, hp]; rfl) hj] at hk
            exact hk
          refine ⟨[.sl e (ps.map fun p => mkEl te.row p.1)], .single rfl (.sl e _ (some a) len cap (fun k => ((ps.map (·.2)).flatten).getD k undef) (by simp [b1]) hlc hcm (fun x hx => ?_) (fun k y hk => ?_) (fun k y hk => ?_)), ⟨he0, _, rfl, by simp [b1]; omega, fun y hy => ?_⟩, fun ty' e => hsize ty' e _⟩
          · obtain ⟨p, hp, rfl⟩ := List.mem_map.1 hx
            rw [hszs]
            exact okEl_mk (hxl p hp).1 (hxl p hp).2 fun hr => by rw [(hxl p hp).1, hrow1 hr]
          · obtain ⟨i, j, p, rfl, hj, hp, hy⟩ := hlook k y hk
            obtain ⟨_, _, c3, bb, off, c4, c5⟩ := b2 i p hp
            refine ⟨bb, off, by rw [c4], stable_imm T _ _, ?_⟩
            rw [c5 j hj]
            have : (ps.map (·.2)).flatten[i * te.size + j]? = p.2[j]? := flatT_get _ _ _ _ (fun c hc => by
              obtain ⟨q, hq, rfl⟩ := List.mem_map.1 hc
              obtain ⟨i', hi'⟩ := List.getElem?_of_mem hq
              exact (b2 i' q hi').2.2.1) (by rw [List.getElem?_map, hp]; rfl) hj
            rw [List.getD_eq_getElem?_getD, List.getD_eq_getElem?_getD, this]
          · obtain ⟨i, j, p, rfl, hj, hp, hy⟩ := hlook k y hk
            obtain ⟨c1, _, c3, _⟩ := b2 i p hp
            have : (ps.map (·.2)).flatten[i * te.size + j]? = p.2[j]? := flatT_get _ _ _ _ (fun c hc => by
              obtain ⟨q, hq, rfl⟩ := List.mem_map.1 hc
              obtain ⟨i', hi'⟩ := List.getElem?_of_mem hq
              exact (b2 i' q hi').2.2.1) (by rw [List.getElem?_map, hp]; rfl) hj
            have := c1.rep j y hy
            rw [List.getD_eq_getElem?_getD] at this ⊢
            rwa [‹(ps.map (·.2)).flatten[i * te.size + j]? = p.2[j]?›]
          · obtain ⟨p, hp, rfl⟩ := List.mem_map.1 hy
            obtain ⟨i, hi⟩ := List.getElem?_of_mem hp
            exact ⟨te, p.1, rfl, rfl, (b2 i p hi).2.1⟩
      · cases hre
    · rename_i fs
      simp only [Bool.and_eq_true] at hre
      obtain ⟨hco, hfa⟩ := hre
      obtain ⟨ys, m, e1, _, hlen, _, hg⟩ := DataW.trod_struct hd h
      obtain rfl : n = m := by omega
      rw [cellsOf_eq hT hTt] at hlen
      have main : ∀ (l' : List Field) (i off : Nat), fs.toList.drop i = l' → contigT T ty.size off l' = true → off ≤ ty.size → ∃ xs, RepC T w xs (cs.drop off) ∧ FitsFs (Fits T n) l' xs := by
        intro l'
        induction l' with
        | nil =>
          intro i off hdr hc ho
          have := Nat.eq_of_beq_eq_true hc
          refine ⟨[], ⟨by simp; omega, by simp, by simp⟩, rfl⟩
        | cons f l' ih =>
          intro i off hdr hc ho
          simp only [contigT, Bool.and_eq_true] at hc
          obtain ⟨hc1, hc2⟩ := hc
          have hc1 := Nat.eq_of_beq_eq_true hc1
          have hfi : fs.toList[i]? = some f := by
            have : (fs.toList.drop i)[0]? = some f := by rw [hdr]; rfl
            simpa using this
          have hfm : f ∈ fs.toList := List.mem_of_getElem? hfi
          have h1 := List.all_eq_true.1 hfa f hfm
          have hfl : f.type ∈ l := by
            have := List.all_eq_true.1 hlead f hfm
            obtain ⟨z, hz, hb⟩ := List.any_eq_true.1 this
            have := Nat.eq_of_beq_eq_true hb
            rw [this]; exact hz
          cases hTf : T f.type with
          | none => rw [hTf] at h1; simp at h1
          | some tf =>
          have h2 := hg i f (by simpa using hfi)
          rw [cellsOf_eq hT hTf, hc1] at h2
          have hle : off + tf.size ≤ ty.size := by
            have : ∀ (l' : List Field) (off : Nat), contigT T ty.size off l' = true → off ≤ ty.size := by
              intro l'
              induction l' with
              | nil => intro off hc; have := Nat.eq_of_beq_eq_true hc; omega
              | cons f l' ih => intro off hc; simp only [contigT, Bool.and_eq_true] at hc; have := ih _ hc.2; omega
            have := this l' _ hc2
            rw [sizes_eq hTf] at this
            exact this
          have hys : i < ys.length := by
            cases hyi : ys[i]? with
            | none =>
              have hfi2 : i < fs.size := by
                have := (List.getElem?_eq_some_iff.1 hfi).1
                simpa using this
              have : ys.length = fs.size := by assumption
              rw [this]; exact hfi2
            | some y => exact (List.getElem?_eq_some_iff.1 hyi).1
          rw [List.getElem?_eq_getElem hys] at h2
          obtain ⟨xs, c1, c2, _⟩ := trod_rep hT hl n f.type _ _ hfl h2
          obtain ⟨rs, d1, d2⟩ := ih (i + 1) (off + sizes T f.type) (by rw [List.drop_add_one_eq_tail_drop, hdr]; rfl) hc2 (by rw [sizes_eq hTf]; exact hle)
          refine ⟨xs ++ rs, ?_, xs, rs, rfl, c2, d2⟩
          have := c1.append d1
          rw [sizes_eq hTf, ← List.drop_drop, List.take_append_drop] at this
          exact this
      obtain ⟨xs, c1, c2⟩ := main fs.toList 0 0 rfl hco (Nat.zero_le _)
      exact ⟨xs, by simpa using c1, c2, fun ty' e => by cases e; exact hlen⟩
/-- An argument. -/
theorem arg_rep (hT : TypesOK P T) {l : List TypeId} (hl : closedT T l = true) {t : TypeId} (ht : t ∈ l) {v : Value} {d : DataW H} {ps : List MemPlace} (hrow : ∀ ty, T t = some ty → (ty.row = true → ∃ cs, v = .agg cs) ∧ (ty.row = false → v.cells = #[v]))
    (hd : DataW.Trod enc P w base spare held t v d ps) : ∃ n x, Fits T n t (V.cells x) ∧ RepV (immG T) w x v ∧ ∀ ty, T t = some ty → x = mkEl ty.row (V.cells x) := by
  obtain ⟨fuel, hf⟩ := hd
  obtain ⟨xs, h1, h2, h3⟩ := trod_rep hT hl fuel t _ _ ht hf
  cases hTt : T t with
  | none => cases fuel <;> simp [Fits, hTt] at h2
  | some ty =>
  have h3 := h3 ty hTt
  obtain ⟨r1, r2⟩ := hrow ty hTt
  cases hr : ty.row with
  | true =>
    obtain ⟨cs, rfl⟩ := r1 hr
    refine ⟨fuel, .agg xs, h2, .agg xs cs (by rw [h1.len]; rfl) fun k y hk => ?_, fun ty' e => by cases e; rw [hr]; rfl⟩
    have := h1.rep k y hk
    simpa [Value.cells, List.getD_eq_getElem?_getD, Array.getD_eq_getD_getElem?] using this
  | false =>
    have hv := r2 hr
    rw [hv] at h1 h3
    have hl1 := h1.len
    simp at hl1
    match xs, hl1 with
    | [x], _ =>
      have ho := h1.one x (by simp)
      have hc : V.cells x = [x] := by cases x <;> first | rfl | cases ho
      exact ⟨fuel, x, by rw [hc]; exact h2, by simpa using h1.rep 0 x rfl, fun ty' e => by cases e; rw [hr, hc]; rfl⟩
end
end Go.Proofs.Ytllnklkjkjmjbaa.En

/- Conditions as plain data; the budget of the statements. -/
namespace Go.Proofs.Ytllnklkjkjmjbaa.En
open Go
set_option linter.unusedVariables false
/-- A list of conditions: the first one's operation, number and kids, and the rest of the list. -/
inductive Cl where
  | nil
  | cons (op n : Int) (kids : Cl) (rest : Cl)
  deriving DecidableEq
namespace Cl
def len : Cl → Nat
  | nil => 0
  | cons _ _ _ r => r.len + 1
def nodes : Cl → Nat
  | nil => 0
  | cons _ _ k r => k.nodes + r.nodes + 1
def enc : Cl → List V
  | nil => []
  | cons o n k r => .agg [.int .i64 o, .int .i64 n, .sl 46 k.enc] :: r.enc
def wf : Cl → Prop
  | nil => True
  | cons o n k r => (-9223372036854775808 ≤ o ∧ o ≤ 9223372036854775807) ∧ (-9223372036854775808 ≤ n ∧ n ≤ 9223372036854775807) ∧ k.len ≤ 9223372036854775807 ∧ k.wf ∧ r.wf
theorem enc_len : ∀ l : Cl, l.enc.length = l.len
  | nil => rfl
  | cons o n k r => by simp [enc, len, enc_len r]
theorem len_le : ∀ l : Cl, l.len ≤ l.nodes
  | nil => Nat.le_refl _
  | cons o n k r => by have := len_le r; simp only [len, nodes]; omega
end Cl
end Go.Proofs.Ytllnklkjkjmjbaa.En

/- Which conditions are valid: the reference. -/
namespace Go.Proofs.Ytllnklkjkjmjbaa.En
open Go
set_option linter.unusedVariables false
/-- All of the list are valid. -/
def vL : Cl → Bool
  | .nil => true
  | .cons o m k r => (if o = 0 ∨ o = 1 then decide (m = 0) && decide (k.len = 0) else if o = 2 ∨ o = 3 then decide (1 ≤ m) && decide (m ≤ 8) && decide (k.len = 0)
      else if o = 4 then decide (1 ≤ m) && decide (m ≤ 5) && decide (k.len = 0) else if o = 5 then decide (1 ≤ m) && decide (bitsI BinOp.and IntKind.i64 51 m = m) && decide (k.len = 0)
      else if o = 6 ∨ o = 7 then decide (m = 0) && !decide (k.len = 0) && vL k else false) && vL r
def vC (o m : Int) (k : Cl) : Bool := vL (.cons o m k .nil)
theorem vL_cons (o m : Int) (k r : Cl) : vL (.cons o m k r) = (vC o m k && vL r) := by
  show _ = (vL (.cons o m k .nil) && vL r)
  simp only [vL, Bool.and_true]
theorem qvalid_loop {R : Type} (N : Nat) (f : Int → Int → List V → Option Bool) (n : Nat) (hf : ∀ (o m : Int) (k : Cl), k.nodes < n → k.wf → k.len ≤ 9223372036854775807 → f o m k.enc = some (vC o m k)) (x y : Int) (K0 : Bool → Option R) (K1 : Option R) :
    ∀ (l : Cl) (pre : List V) (t : Nat), l.len < t → l.nodes ≤ n → l.wf → pre.length + l.len ≤ 9223372036854775807 →
      S_qvalid_18 N f x y (pre ++ l.enc) t (pre.length : Int) K0 K1 = if vL l then K1 else K0 false
  | .nil, pre, 0, ht, _, _, _ => by simp [Cl.len] at ht
  | .nil, pre, t + 1, ht, _, _, _ => by
    unfold S_qvalid_18 F_qvalid_18
    simp [Cl.enc, br, vL]
  | .cons o m k r, pre, 0, ht, _, _, _ => by simp [Cl.len] at ht
  | .cons o m k r, pre, t + 1, ht, hn, hw, hl => by
    simp only [Cl.len, Cl.nodes] at ht hn hl
    obtain ⟨_, _, hk1, hk2, hr⟩ := hw
    have ih := qvalid_loop N f n hf x y K0 K1 r (pre ++ [.agg [.int .i64 o, .int .i64 m, .sl 46 k.enc]]) t
    have e1 : pre ++ [V.agg [.int .i64 o, .int .i64 m, .sl 46 k.enc]] ++ r.enc = pre ++ .agg [.int .i64 o, .int .i64 m, .sl 46 k.enc] :: r.enc := by simp
    have e2 : ((pre ++ [V.agg [.int .i64 o, .int .i64 m, .sl 46 k.enc]]).length : Int) = (pre.length : Int) + 1 := by simp
    rw [e1, e2] at ih
    unfold S_qvalid_18 F_qvalid_18
    have h1 : (pre.length : Int) < ((pre ++ V.agg [.int .i64 o, .int .i64 m, .sl 46 k.enc] :: r.enc).length : Int) := by simp; omega
    have h2 : (0 : Int) ≤ pre.length := by omega
    have h3 : IntKind.i64.wrap ((pre.length : Int) + 1) = (pre.length : Int) + 1 := w64 (by omega) (by omega)
    simp only [Cl.enc, br_t, br_f, br_dec, br_not, br_and, br_or, bnd1_mk, bnd2_mk, bnd3_mk, bnd4_mk, bnd5_mk, bnd10_mk, at_zero, at_succ, at_mid, unInt_mk, unBool_mk, unStr_mk, unBytes_mk, unSl_mk, unAgg_mk, unCons_mk, unNil_mk, h1, h2, if_true, Int.toNat_natCast]
    rw [hf o m k (by omega) hk2 hk1, bnd1_mk, h3, vL_cons, ih (by omega) (by omega) hr (by simp; omega)]
    cases vC o m k <;> simp [br]
/-- The reference's valid. -/
theorem qvalid_ok (N : Nat) : ∀ (n : Nat) (o m : Int) (k : Cl), n ≤ N → k.nodes < n → k.wf → k.len ≤ 9223372036854775807 → s_qvalid N n o m k.enc = some (vC o m k)
  | 0, o, m, k, _, h, _, _ => absurd h (Nat.not_lt_zero _)
  | n + 1, o, m, k, hN, h, hw, hl => by
    unfold s_qvalid B_qvalid
    have hln := Cl.len_le k
    have hL : S_qvalid_18 N (s_qvalid N n) o m k.enc N 0 (fun b => some b) (some true) = if vL k then some true else some false :=
      qvalid_loop N (s_qvalid N n) n (fun o m k a1 a2 a3 => qvalid_ok N n o m k (by omega) a1 a2 a3) o m _ _ k [] N (by omega) (by omega) hw (by simpa using hl)
    have hz : ((k.enc.length : Int) = 0) = (k.len = 0) := by rw [Cl.enc_len]; exact propext (by omega)
    simp only [hL, hz, s_qhas, bnd1_mk, br_dec, br_not, vC, vL, Bool.and_true]
    by_cases h0 : o = 0
    · subst h0; by_cases hm : m = 0 <;> simp [hm]
    by_cases h1 : o = 1
    · subst h1; by_cases hm : m = 0 <;> simp [hm]
    by_cases h2 : o = 2
    · subst h2; by_cases ha : 1 ≤ m <;> by_cases hb : m ≤ 8 <;> simp [ha, hb]
    by_cases h3 : o = 3
    · subst h3; by_cases ha : 1 ≤ m <;> by_cases hb : m ≤ 8 <;> simp [ha, hb]
    by_cases h4 : o = 4
    · subst h4; by_cases ha : 1 ≤ m <;> by_cases hb : m ≤ 5 <;> simp [ha, hb]
    by_cases h5 : o = 5
    · subst h5; by_cases ha : 1 ≤ m <;> by_cases hb : bitsI BinOp.and IntKind.i64 51 m = m <;> simp [ha, hb]
    by_cases h6 : o = 6
    · subst h6; by_cases hm : m = 0 <;> by_cases hk : k.len = 0 <;> cases hv : vL k <;> simp [hm, hk]
    by_cases h7 : o = 7
    · subst h7; by_cases hm : m = 0 <;> by_cases hk : k.len = 0 <;> cases hv : vL k <;> simp [hm, hk]
    simp [h0, h1, h2, h3, h4, h5, h6, h7]
end Go.Proofs.Ytllnklkjkjmjbaa.En

/- Words for security statuses: bits as vectors. No program in sight. -/
namespace Go.Proofs.Ytllnklkjkjmjbaa.En
open Go
set_option linter.unusedVariables false
def bv (a : Int) : BitVec 64 := BitVec.ofInt 64 a
theorem wrap_range (n : Int) : -9223372036854775808 ≤ IntKind.i64.wrap n ∧ IntKind.i64.wrap n ≤ 9223372036854775807 := by
  rw [IntKind.wrap_i64]; omega
/-- All bits of y are in x. -/
def hasB (x y : BitVec 64) : Bool := decide (x &&& y = y)
theorem hasB_iff (x y : BitVec 64) : hasB x y = true ↔ ∀ i, i < 64 → y.getLsbD i = true → x.getLsbD i = true := by
  unfold hasB
  rw [decide_eq_true_iff]
  constructor
  · intro h i hi hy
    rw [← h, BitVec.getLsbD_and] at hy
    simp at hy; exact hy.1
  · intro h
    apply BitVec.eq_of_getLsbD_eq
    intro i hi
    rw [BitVec.getLsbD_and]
    cases hy : y.getLsbD i with
    | false => simp
    | true => simp [h i hi hy]
theorem hasB_refl (x : BitVec 64) : hasB x x = true := by rw [hasB_iff]; intros; assumption
theorem hasB_trans {x y z : BitVec 64} (h : hasB x y = true) (k : hasB y z = true) : hasB x z = true := by
  rw [hasB_iff] at *
  exact fun i hi hz => h i hi (k i hi hz)
/-- A security status: PINs, keys, state, level. -/
structure Sec where
  p : Int
  k : Int
  s : Int
  l : Int
def Sec.enc (x : Sec) : V := .agg [.int .i64 x.p, .int .i64 x.k, .int .i64 x.s, .int .i64 x.l]
/-- x has at most the rights of y. -/
def Sec.le (x y : Sec) : Prop := hasB (bv y.p) (bv x.p) = true ∧ hasB (bv y.k) (bv x.k) = true ∧ (x.s ≤ 0 ∨ x.s ≤ y.s) ∧ hasB (bv y.l) (bv x.l) = true
theorem Sec.le_refl (x : Sec) : x.le x := ⟨hasB_refl _, hasB_refl _, .inr (Int.le_refl _), hasB_refl _⟩
theorem Sec.le_trans {x y z : Sec} (h : x.le y) (k : y.le z) : x.le z := by
  obtain ⟨a, b, c, d⟩ := h
  obtain ⟨a', b', c', d'⟩ := k
  exact ⟨hasB_trans a' a, hasB_trans b' b, by omega, hasB_trans d' d⟩
/-- 2^n, n from 0 to 62. -/
def p2 (n : Nat) : Int := ((2 ^ n : Nat) : Int)
end Go.Proofs.Ytllnklkjkjmjbaa.En

/- Which conditions imply which: plain. -/
namespace Go.Proofs.Ytllnklkjkjmjbaa.En
open Go
set_option linter.unusedVariables false
/-- What is known of a valid condition. -/
theorem vC_leaf {o m : Int} {k : Cl} (h : vC o m k = true) : (o = 0 ∧ m = 0 ∧ k = .nil) ∨ (o = 1 ∧ m = 0 ∧ k = .nil) ∨ (o = 2 ∧ 1 ≤ m ∧ m ≤ 8 ∧ k = .nil) ∨ (o = 3 ∧ 1 ≤ m ∧ m ≤ 8 ∧ k = .nil) ∨ (o = 4 ∧ 1 ≤ m ∧ m ≤ 5 ∧ k = .nil) ∨ (o = 5 ∧ 1 ≤ m ∧ bitsI BinOp.and IntKind.i64 51 m = m ∧ k = .nil) ∨ ((o = 6 ∨ o = 7) ∧ m = 0 ∧ k ≠ .nil ∧ vL k = true) := by
  have hnil : ∀ k : Cl, k.len = 0 → k = .nil := by intro k; cases k <;> simp [Cl.len]
  simp only [vC, vL, Bool.and_true] at h
  by_cases h0 : o = 0 ∨ o = 1
  · rw [if_pos h0] at h
    simp only [Bool.and_eq_true, decide_eq_true_eq] at h
    have := hnil k h.2
    rcases h0 with h0 | h0
    · exact .inl ⟨h0, h.1, this⟩
    · exact .inr (.inl ⟨h0, h.1, this⟩)
  rw [if_neg h0] at h
  by_cases h2 : o = 2 ∨ o = 3
  · rw [if_pos h2] at h
    simp only [Bool.and_eq_true, decide_eq_true_eq] at h
    have := hnil k h.2
    rcases h2 with h2 | h2
    · exact .inr (.inr (.inl ⟨h2, h.1.1, h.1.2, this⟩))
    · exact .inr (.inr (.inr (.inl ⟨h2, h.1.1, h.1.2, this⟩)))
  rw [if_neg h2] at h
  by_cases h4 : o = 4
  · rw [if_pos h4] at h
    simp only [Bool.and_eq_true, decide_eq_true_eq] at h
    exact .inr (.inr (.inr (.inr (.inl ⟨h4, h.1.1, h.1.2, hnil k h.2⟩))))
  rw [if_neg h4] at h
  by_cases h5 : o = 5
  · rw [if_pos h5] at h
    simp only [Bool.and_eq_true, decide_eq_true_eq] at h
    exact .inr (.inr (.inr (.inr (.inr (.inl ⟨h5, h.1.1, h.1.2, hnil k h.2⟩)))))
  rw [if_neg h5] at h
  by_cases h6 : o = 6 ∨ o = 7
  · rw [if_pos h6] at h
    simp only [Bool.and_eq_true, decide_eq_true_eq, Bool.not_eq_true', decide_eq_false_iff_not] at h
    exact .inr (.inr (.inr (.inr (.inr (.inr ⟨h6, h.1.1, fun e => h.1.2 (by rw [e]; rfl), h.2⟩)))))
  · rw [if_neg h6] at h; cases h
/-! The program's statuses -/
instance : DecidableEq Sec := fun x y => by
  cases x with | mk a b c d => cases y with | mk e f g h =>
  exact decidable_of_iff (a = e ∧ b = f ∧ c = g ∧ d = h) (by simp)
end Go.Proofs.Ytllnklkjkjmjbaa.En

/- Which conditions imply which: the reference's trial of all statuses. Plain. -/
namespace Go.Proofs.Ytllnklkjkjmjbaa.En
open Go
set_option linter.unusedVariables false
abbrev At := Int × Int
theorem level_range {n : Int} (h1 : 1 ≤ n) (h : bitsI BinOp.and IntKind.i64 51 n = n) : n ≤ 51 := by
  have e : bitsI BinOp.and IntKind.i64 51 n = IntKind.i64.wrap ((bv 51 &&& bv n).toNat : Int) := rfl
  have h2 : (bv 51 &&& bv n).toNat ≤ 51 := by
    rw [BitVec.toNat_and]
    exact Nat.le_trans Nat.and_le_left (by decide)
  rw [e, w64 (by omega) (by omega)] at h
  omega
/-! The trial -/
/-- What is still to come is not there. -/
def fresh (s : Sec) (l : List At) : Prop := ∀ a ∈ l, (a.1 = 2 → bv s.p &&& bv (p2 a.2.toNat) = 0#64) ∧ (a.1 = 3 → bv s.k &&& bv (p2 a.2.toNat) = 0#64) ∧ (a.1 = 5 → bv s.l &&& bv a.2 = 0#64)
end Go.Proofs.Ytllnklkjkjmjbaa.En

/- Lists of data objects as plain data; the budget of the statements. -/
namespace Go.Proofs.Ytllnklkjkjmjbaa.En
open Go
set_option linter.unusedVariables false
/-- A list of data objects: the first one's tag, value and kids, and the rest of the list. -/
inductive Tl where
  | nil
  | cons (tag : Int) (value : List UInt8) (kids : Tl) (rest : Tl)
  deriving DecidableEq
namespace Tl
def len : Tl → Nat
  | nil => 0
  | cons _ _ _ r => r.len + 1
def nodes : Tl → Nat
  | nil => 0
  | cons _ _ k r => k.nodes + r.nodes + 1
def append : Tl → Tl → Tl
  | nil, u => u
  | cons t v k r, u => cons t v k (r.append u)
def enc : Tl → List V
  | nil => []
  | cons t v k r => .agg [.int .i64 t, .bytes v, .sl 62 k.enc] :: r.enc
/-- As it came in: tags are of type int, slices have lengths. -/
def wf : Tl → Prop
  | nil => True
  | cons t v k r => (-9223372036854775808 ≤ t ∧ t ≤ 9223372036854775807) ∧ v.length ≤ 9223372036854775807 ∧ k.len ≤ 9223372036854775807 ∧ k.wf ∧ r.wf
/-- Objects and bytes. -/
def wt : Tl → Nat
  | nil => 0
  | cons _ v k r => v.length + 1 + k.wt + r.wt
theorem enc_len : ∀ l : Tl, l.enc.length = l.len
  | nil => rfl
  | cons t v k r => by simp [enc, len, enc_len r]
theorem len_le : ∀ l : Tl, l.len ≤ l.nodes
  | nil => Nat.le_refl _
  | cons t v k r => by have := len_le r; simp only [len, nodes]; omega
theorem nodes_le : ∀ l : Tl, l.nodes ≤ l.wt
  | nil => Nat.le_refl _
  | cons t v k r => by have := nodes_le k; have := nodes_le r; simp only [wt, nodes]; omega
theorem enc_append : ∀ a b : Tl, (a.append b).enc = a.enc ++ b.enc
  | nil, b => rfl
  | cons t v k r, b => by simp only [append, enc, enc_append r b, List.cons_append]
theorem len_append : ∀ a b : Tl, (a.append b).len = a.len + b.len
  | nil, b => by simp [append, len]
  | cons t v k r, b => by simp only [append, len, len_append r b]; omega
theorem append_nil : ∀ a : Tl, a.append nil = a
  | nil => rfl
  | cons t v k r => by simp only [append, append_nil r]
/-- Small enough: no number overflows. -/
theorem len_wt (l : Tl) : l.len ≤ l.wt := Nat.le_trans (len_le l) (nodes_le l)
end Tl
end Go.Proofs.Ytllnklkjkjmjbaa.En

/- Tags and lengths of data objects: what the program and the reference compute. -/
namespace Go.Proofs.Ytllnklkjkjmjbaa.En
open Go
set_option linter.unusedVariables false
def I64 (t : Int) : Prop := -9223372036854775808 ≤ t ∧ t ≤ 9223372036854775807
def tagV (t : Int) : Bool := decide ((1 ≤ t ∧ t ≤ 255 ∧ t % 32 ≠ 31) ∨ (256 ≤ t ∧ t ≤ 65535 ∧ t / 256 % 32 = 31 ∧ 31 ≤ t % 256 ∧ t % 256 ≤ 127))
def tagC (t : Int) : Bool := tagV t && decide ((if 255 < t then t / 256 else t) / 32 % 2 = 1)
theorem tagV_range {t : Int} (h : tagV t = true) : 1 ≤ t ∧ t ≤ 65535 := by simp [tagV] at h; omega
theorem Valid_eq (N : Nat) (t : Int) (h : I64 t) : s_Valid N t = some (tagV t) := by
  unfold s_Valid
  simp only [br_t, br_f, br_dec, br_not, br_and, br_or, bnd1_mk, bnd2_mk, bnd3_mk, bnd4_mk, bnd5_mk, bnd10_mk, at_zero, at_succ, at_mid, unInt_mk, unBool_mk, unStr_mk, unBytes_mk, unSl_mk, unAgg_mk, unCons_mk, unNil_mk, and31, and255, shr8]
  repeat' split
  all_goals (congr 1; rw [Bool.eq_iff_iff]; simp [tagV]; omega)
theorem rValid_eq (N : Nat) (t : Int) (h : I64 t) : s_rValid N t = some (tagV t) := by
  unfold s_rValid
  simp only [br_t, br_f, br_dec, br_not, br_and, br_or, bnd1_mk, bnd2_mk, bnd3_mk, bnd4_mk, bnd5_mk, bnd10_mk, at_zero, at_succ, at_mid, unInt_mk, unBool_mk, unStr_mk, unBytes_mk, unSl_mk, unAgg_mk, unCons_mk, unNil_mk]
  by_cases h0 : 1 ≤ t
  · have e1 : t.tmod 32 = t % 32 := Int.tmod_eq_emod_of_nonneg (by omega)
    have e2 : t.tmod 256 = t % 256 := Int.tmod_eq_emod_of_nonneg (by omega)
    have e3 : t.tdiv 256 = t / 256 := Int.tdiv_eq_ediv_of_nonneg (by omega)
    have e4 : IntKind.i64.wrap (t / 256) = t / 256 := w64 (by unfold I64 at h; omega) (by unfold I64 at h; omega)
    have e5 : (t / 256).tmod 32 = t / 256 % 32 := Int.tmod_eq_emod_of_nonneg (by omega)
    simp only [e1, e2, e3, e4, e5]
    repeat' split
    all_goals (congr 1; rw [Bool.eq_iff_iff]; simp [tagV]; omega)
  · rw [if_neg h0, if_neg (by omega)]
    congr 1; rw [Bool.eq_iff_iff]; simp [tagV]; omega
theorem Constructed_eq (N : Nat) (t : Int) (h : I64 t) : s_Constructed N t = some (tagC t) := by
  unfold s_Constructed tagC
  simp only [br_t, br_f, br_dec, br_not, br_and, br_or, bnd1_mk, bnd2_mk, bnd3_mk, bnd4_mk, bnd5_mk, bnd10_mk, at_zero, at_succ, at_mid, unInt_mk, unBool_mk, unStr_mk, unBytes_mk, unSl_mk, unAgg_mk, unCons_mk, unNil_mk, Valid_eq N t h, and32, shr8]
  cases tagV t with
  | false => simp [br]
  | true =>
    simp only [br_t, Bool.true_and]
    by_cases hc : 255 < t
    · rw [if_pos hc, if_pos hc]; congr 1; rw [Bool.eq_iff_iff]; simp; omega
    · rw [if_neg hc, if_neg hc]; congr 1; rw [Bool.eq_iff_iff]; simp; omega
theorem rConstructed_eq (N : Nat) (t : Int) (h : I64 t) : s_rConstructed N t = some (tagC t) := by
  unfold s_rConstructed s_rfirst tagC
  simp only [br_t, br_f, br_dec, br_not, br_and, br_or, bnd1_mk, bnd2_mk, bnd3_mk, bnd4_mk, bnd5_mk, bnd10_mk, at_zero, at_succ, at_mid, unInt_mk, unBool_mk, unStr_mk, unBytes_mk, unSl_mk, unAgg_mk, unCons_mk, unNil_mk, rValid_eq N t h]
  cases ht : tagV t with
  | false => simp [br]
  | true =>
    have hr := tagV_range ht
    have e3 : t.tdiv 256 = t / 256 := Int.tdiv_eq_ediv_of_nonneg (by omega)
    have e4 : IntKind.i64.wrap (t / 256) = t / 256 := w64 (by omega) (by omega)
    have e5 : ∀ x : Int, 1 ≤ x → x ≤ 65535 → (IntKind.i64.wrap (x.tdiv 32)).tmod 2 = x / 32 % 2 := fun x h1 h2 => by
      rw [Int.tdiv_eq_ediv_of_nonneg (by omega), w64 (by omega) (by omega)]
      exact Int.tmod_eq_emod_of_nonneg (by omega)
    simp only [br_t, Bool.true_and, e3, e4]
    by_cases hc : 255 < t
    · rw [if_pos hc, if_pos hc, bnd1_mk, e5 _ (by omega) (by omega)]
    · rw [if_neg hc, if_neg hc, bnd1_mk, e5 _ (by omega) (by omega)]
/-! The bytes of tags and lengths -/
def byteI (n : Int) : UInt8 := UInt8.ofNat (n % 256).toNat
theorem byteI_toNat (n : Int) : ((byteI n).toNat : Int) = n % 256 := by
  unfold byteI
  rw [UInt8.toNat_ofNat', Nat.mod_eq_of_lt (by omega)]; omega
theorem byteI_u8 (u : UInt8) : byteI (u.toNat : Int) = u := by
  apply UInt8.toNat_inj.1
  have := byteI_toNat (u.toNat : Int)
  have := u8_lt u
  omega
theorem byteI_eq {n : Int} {u : UInt8} (h : n % 256 = u.toNat) : byteI n = u := by
  apply UInt8.toNat_inj.1
  have := byteI_toNat n
  omega
def tagB (t : Int) : List UInt8 := if 255 < t then [byteI (t / 256), byteI t] else [byteI t]
def lenB (n : Int) : List UInt8 := if n < 128 then [byteI n] else if n < 256 then [129, byteI n] else [130, byteI (n / 256), byteI n]
theorem tagBytes_eq (N : Nat) (t : Int) : s_tagBytes N t = some (tagB t) := by
  unfold s_tagBytes tagB byteI
  simp only [br_t, br_f, br_dec, br_not, br_and, br_or, bnd1_mk, bnd2_mk, bnd3_mk, bnd4_mk, bnd5_mk, bnd10_mk, at_zero, at_succ, at_mid, unInt_mk, unBool_mk, unStr_mk, unBytes_mk, unSl_mk, unAgg_mk, unCons_mk, unNil_mk, shr8, wu8]
  split <;> rfl
theorem lengthBytes_eq (N : Nat) (n : Int) : s_lengthBytes N n = some (lenB n) := by
  unfold s_lengthBytes lenB byteI
  simp only [br_t, br_f, br_dec, br_not, br_and, br_or, bnd1_mk, bnd2_mk, bnd3_mk, bnd4_mk, bnd5_mk, bnd10_mk, at_zero, at_succ, at_mid, unInt_mk, unBool_mk, unStr_mk, unBytes_mk, unSl_mk, unAgg_mk, unCons_mk, unNil_mk, shr8, wu8]
  repeat' split
  all_goals rfl
theorem rhead_eq (N : Nat) (t n : Int) (ht : 0 ≤ t ∧ t ≤ 65535) (hn : 0 ≤ n ∧ n ≤ 65535) : s_rhead N t n = some (tagB t ++ lenB n) := by
  have e1 : ∀ x : Int, 0 ≤ x ∧ x ≤ 65535 → IntKind.i64.wrap (x.tdiv 256) = x / 256 := fun x h => by
    rw [Int.tdiv_eq_ediv_of_nonneg h.1, w64 (by omega) (by omega)]
  have e2 : ∀ x : Int, 0 ≤ x ∧ x ≤ 65535 → x.tmod 256 = x % 256 := fun x h => Int.tmod_eq_emod_of_nonneg h.1
  unfold s_rhead tagB lenB byteI
  simp only [br_t, br_f, br_dec, br_not, br_and, br_or, bnd1_mk, bnd2_mk, bnd3_mk, bnd4_mk, bnd5_mk, bnd10_mk, at_zero, at_succ, at_mid, unInt_mk, unBool_mk, unStr_mk, unBytes_mk, unSl_mk, unAgg_mk, unCons_mk, unNil_mk, wu8, e1 t ht, e1 n hn, e2 t ht, e2 n hn, Int.emod_emod_of_dvd _ (Int.dvd_refl 256)]
  have q1 : (n < 128) ↔ ¬ (128 ≤ n) := by omega
  have q2 : (n < 256) ↔ ¬ (256 ≤ n) := by omega
  simp only [q1, q2]
  by_cases h1 : 255 < t <;> by_cases h2 : 256 ≤ n <;> by_cases h3 : 128 ≤ n
  all_goals simp only [h1, h2, h3, if_true, if_false, not_true, not_false_iff, List.cons_append, List.nil_append]
  all_goals first | rfl | omega
end Go.Proofs.Ytllnklkjkjmjbaa.En

/- The bytes of conditions: there and back. Plain. -/
namespace Go.Proofs.Ytllnklkjkjmjbaa.En
open Go
set_option linter.unusedVariables false
/-- The bytes of a list of conditions. -/
def eL : Cl → List UInt8
  | .nil => []
  | .cons o m k r => (byteI o :: (if 6 ≤ o then byteI (k.len : Int) :: eL k else if 2 ≤ o then [byteI m] else [])) ++ eL r
def eC (o m : Int) (k : Cl) : List UInt8 := byteI o :: (if 6 ≤ o then byteI (k.len : Int) :: eL k else if 2 ≤ o then [byteI m] else [])
theorem eL_cons (o m : Int) (k r : Cl) : eL (.cons o m k r) = eC o m k ++ eL r := by
  conv => lhs; unfold eL
  rfl
/-- The depth. -/
def Cl.dep : Cl → Nat
  | .nil => 0
  | .cons _ _ k r => max (k.dep + 1) r.dep
theorem Cl.dep_le : ∀ l : Cl, l.dep ≤ l.nodes
  | .nil => Nat.le_refl _
  | .cons o m k r => by
    have := dep_le k
    have := dep_le r
    simp only [Cl.dep, Cl.nodes]; omega
theorem eL_len : ∀ l : Cl, (eL l).length ≤ 2 * l.nodes
  | .nil => Nat.le_refl _
  | .cons o m k r => by
    have h1 := eL_len k
    have h2 := eL_len r
    rw [eL_cons]
    unfold eC
    simp only [List.length_append, List.length_cons, Cl.nodes]
    split
    · simp only [List.length_cons]; omega
    split
    · simp; omega
    · simp; omega
/-! Reading -/
def rdL (f : List UInt8 → Option ((Int × Int × Cl) × List UInt8)) : Nat → List UInt8 → Option (Cl × List UInt8)
  | 0, b => some (.nil, b)
  | n + 1, b => match f b with
    | none => none
    | some ((o, m, k), rest) => match rdL f n rest with
      | none => none
      | some (r, rest') => some (.cons o m k r, rest')
def rd (lim : Int) : Nat → List UInt8 → Option ((Int × Int × Cl) × List UInt8)
  | 0, _ => none
  | _ + 1, [] => none
  | d + 1, op :: b =>
    if lim < (op.toNat : Int) then none
    else if (op.toNat : Int) < 2 then some (((op.toNat : Int), 0, .nil), b)
    else match b with
      | [] => none
      | n :: b =>
        if (op.toNat : Int) < 6 then some (((op.toNat : Int), (n.toNat : Int), .nil), b)
        else match rdL (rd lim d) n.toNat b with
          | none => none
          | some (k, rest) => some (((op.toNat : Int), 0, k), rest)
theorem rdL_ok {f : List UInt8 → Option ((Int × Int × Cl) × List UInt8)} (hf : ∀ b o m k rest, f b = some ((o, m, k), rest) → b = eC o m k ++ rest) : ∀ (n : Nat) (b : List UInt8) (l : Cl) (rest : List UInt8), rdL f n b = some (l, rest) → l.len = n ∧ b = eL l ++ rest
  | 0, b, l, rest, h => by
    simp only [rdL, Option.some.injEq, Prod.mk.injEq] at h
    obtain ⟨rfl, rfl⟩ := h
    exact ⟨rfl, rfl⟩
  | n + 1, b, l, rest, h => by
    unfold rdL at h
    split at h
    · cases h
    · rename_i o m k r1 h1
      split at h
      · cases h
      · rename_i r r2 h2
        simp only [Option.some.injEq, Prod.mk.injEq] at h
        obtain ⟨rfl, rfl⟩ := h
        obtain ⟨h3, h4⟩ := rdL_ok hf n r1 r r2 h2
        refine ⟨by simp [Cl.len, h3], ?_⟩
        rw [hf b o m k r1 h1, h4, eL_cons, List.append_assoc]
/-- What is read is encoded to the bytes that were read. -/
theorem rd_ok (lim : Int) : ∀ (d : Nat) (b : List UInt8) (o m : Int) (k : Cl) (rest : List UInt8), rd lim d b = some ((o, m, k), rest) → b = eC o m k ++ rest
  | 0, b, o, m, k, rest, h => by simp [rd] at h
  | d + 1, [], o, m, k, rest, h => by simp [rd] at h
  | d + 1, op :: b, o, m, k, rest, h => by
    have ho := u8_lt op
    unfold rd at h
    split at h
    · cases h
    split at h
    · simp only [Option.some.injEq, Prod.mk.injEq] at h
      obtain ⟨⟨rfl, rfl, rfl⟩, rfl⟩ := h
      unfold eC
      rw [if_neg (by omega), if_neg (by omega), byteI_u8]; rfl
    rename_i c1 c2
    cases b with
    | nil => cases h
    | cons n b =>
      simp only at h
      split at h
      · simp only [Option.some.injEq, Prod.mk.injEq] at h
        obtain ⟨⟨rfl, rfl, rfl⟩, rfl⟩ := h
        unfold eC
        rw [if_neg (by omega), if_pos (by omega), byteI_u8, byteI_u8]; rfl
      · rename_i c3
        split at h
        · cases h
        · rename_i l r1 h1
          simp only [Option.some.injEq, Prod.mk.injEq] at h
          obtain ⟨⟨rfl, rfl, rfl⟩, rfl⟩ := h
          obtain ⟨h2, h3⟩ := rdL_ok (fun b o m k rest => rd_ok lim d b o m k rest) n.toNat b l r1 h1
          unfold eC
          rw [if_pos (by omega), byteI_u8, h2, byteI_u8, h3]; rfl
/-- What is read is short and has small numbers. -/
theorem rdL_wf {f : List UInt8 → Option ((Int × Int × Cl) × List UInt8)} (hf : ∀ b o m k rest, f b = some ((o, m, k), rest) → (Cl.cons o m k .nil).wf ∧ k.nodes + 1 + rest.length ≤ b.length) : ∀ (n : Nat) (b : List UInt8) (l : Cl) (rest : List UInt8), rdL f n b = some (l, rest) → l.wf ∧ l.nodes + rest.length ≤ b.length
  | 0, b, l, rest, h => by
    simp only [rdL, Option.some.injEq, Prod.mk.injEq] at h
    obtain ⟨rfl, rfl⟩ := h
    exact ⟨trivial, by simp [Cl.nodes]⟩
  | n + 1, b, l, rest, h => by
    unfold rdL at h
    split at h
    · cases h
    · rename_i o m k r1 h1
      split at h
      · cases h
      · rename_i r r2 h2
        simp only [Option.some.injEq, Prod.mk.injEq] at h
        obtain ⟨rfl, rfl⟩ := h
        obtain ⟨h3, h4⟩ := rdL_wf hf n r1 r r2 h2
        obtain ⟨⟨a1, a2, a3, a4, _⟩, h6⟩ := hf b o m k r1 h1
        exact ⟨⟨a1, a2, a3, a4, h3⟩, by simp only [Cl.nodes]; omega⟩
theorem rd_wf (lim : Int) : ∀ (d : Nat) (b : List UInt8) (o m : Int) (k : Cl) (rest : List UInt8), rd lim d b = some ((o, m, k), rest) → (Cl.cons o m k .nil).wf ∧ k.nodes + 1 + rest.length ≤ b.length
  | 0, b, o, m, k, rest, h => by simp [rd] at h
  | d + 1, [], o, m, k, rest, h => by simp [rd] at h
  | d + 1, op :: b, o, m, k, rest, h => by
    have ho := u8_lt op
    unfold rd at h
    split at h
    · cases h
    split at h
    · simp only [Option.some.injEq, Prod.mk.injEq] at h
      obtain ⟨⟨rfl, rfl, rfl⟩, rfl⟩ := h
      exact ⟨⟨by omega, by omega, by simp [Cl.len], trivial, trivial⟩, by simp [Cl.nodes]; omega⟩
    rename_i c1 c2
    cases b with
    | nil => cases h
    | cons n b =>
      have hn := u8_lt n
      simp only at h
      split at h
      · simp only [Option.some.injEq, Prod.mk.injEq] at h
        obtain ⟨⟨rfl, rfl, rfl⟩, rfl⟩ := h
        exact ⟨⟨by omega, by omega, by simp [Cl.len], trivial, trivial⟩, by simp [Cl.nodes]; omega⟩
      · rename_i c3
        split at h
        · cases h
        · rename_i l r1 h1
          simp only [Option.some.injEq, Prod.mk.injEq] at h
          obtain ⟨⟨rfl, rfl, rfl⟩, rfl⟩ := h
          obtain ⟨h2, h3⟩ := rdL_wf (fun b o m k rest => rd_wf lim d b o m k rest) n.toNat b l r1 h1
          obtain ⟨h4, _⟩ := rdL_ok (fun b o m k rest => rd_ok lim d b o m k rest) n.toNat b l r1 h1
          exact ⟨⟨by omega, by omega, by omega, h2, trivial⟩, by simp; omega⟩
theorem rdL_mono {f g : List UInt8 → Option ((Int × Int × Cl) × List UInt8)} (hf : ∀ b x, f b = some x → g b = some x) : ∀ (n : Nat) (b : List UInt8) (x : Cl × List UInt8), rdL f n b = some x → rdL g n b = some x
  | 0, b, x, h => h
  | n + 1, b, x, h => by
    unfold rdL at h ⊢
    split at h
    · cases h
    · rename_i o m k r1 h1
      rw [hf _ _ h1]
      simp only
      split at h
      · cases h
      · rename_i r r2 h2
        rw [rdL_mono hf n r1 _ h2]
        exact h
theorem rd_mono {lim lim' : Int} (hl : lim ≤ lim') : ∀ (d d' : Nat) (b : List UInt8) (x : (Int × Int × Cl) × List UInt8), d ≤ d' → rd lim d b = some x → rd lim' d' b = some x
  | 0, d', b, x, _, h => by simp [rd] at h
  | d + 1, 0, b, x, hd, h => by omega
  | d + 1, d' + 1, [], x, hd, h => by simp [rd] at h
  | d + 1, d' + 1, op :: b, x, hd, h => by
    unfold rd at h ⊢
    split at h
    · cases h
    rename_i c0
    rw [if_neg (by omega)]
    split at h
    · rename_i c1
      rw [if_pos c1]; exact h
    rename_i c1
    rw [if_neg c1]
    cases b with
    | nil => cases h
    | cons n b =>
      simp only at h ⊢
      split at h
      · rename_i c2
        rw [if_pos c2]; exact h
      · rename_i c2
        rw [if_neg c2]
        split at h
        · cases h
        · rename_i l r1 h1
          rw [rdL_mono (fun b x hx => rd_mono hl d d' b x (by omega) hx) n.toNat b _ h1]
          exact h
/-- What valid conditions are encoded to is read. -/
theorem rd_put : ∀ (l : Cl) (d : Nat) (rest : List UInt8), vL l = true → l.nodes ≤ 255 → l.dep ≤ d + 1 → (∀ o m k r, l = .cons o m k r → rd 7 (d + 1) (eC o m k ++ (eL r ++ rest)) = some ((o, m, k), eL r ++ rest)) ∧ rdL (rd 7 (d + 1)) l.len (eL l ++ rest) = some (l, rest)
  | .nil, d, rest, _, _, _ => ⟨fun o m k r h => (by cases h), rfl⟩
  | .cons o m k r, d, rest, hv, hn, hd => by
    have hv0 := hv
    rw [vL_cons, Bool.and_eq_true] at hv
    simp only [Cl.nodes] at hn
    simp only [Cl.dep] at hd
    have hkl := Cl.len_le k
    have one : ∀ x : List UInt8, rd 7 (d + 1) (eC o m k ++ x) = some ((o, m, k), x) := by
      intro x
      have hb : ∀ z : Int, 0 ≤ z → z ≤ 255 → ((byteI z).toNat : Int) = z := fun z h1 h2 => by rw [byteI_toNat]; omega
      have leaf0 : ∀ (z : Int), 0 ≤ z → z < 2 → rd 7 (d + 1) (eC z 0 .nil ++ x) = some ((z, 0, .nil), x) := by
        intro z h1 h2
        unfold eC
        rw [if_neg (by omega), if_neg (by omega)]
        show rd 7 (d + 1) (byteI z :: x) = _
        unfold rd
        rw [hb z h1 (by omega), if_neg (by omega), if_pos h2]
      have leaf1 : ∀ (z : Int), 2 ≤ z → z < 6 → 0 ≤ m → m ≤ 255 → rd 7 (d + 1) (eC z m .nil ++ x) = some ((z, m, .nil), x) := by
        intro z h1 h2 h3 h4
        unfold eC
        rw [if_neg (by omega), if_pos (by omega)]
        show rd 7 (d + 1) (byteI z :: byteI m :: x) = _
        unfold rd
        rw [hb z (by omega) (by omega), if_neg (by omega), if_neg (by omega)]
        simp only
        rw [if_pos h2, hb m h3 h4]
      have inner : ∀ (z : Int), (z = 6 ∨ z = 7) → m = 0 → k ≠ .nil → vL k = true → rd 7 (d + 1) (eC z m k ++ x) = some ((z, m, k), x) := by
        intro z hz hm hk0 hk
        unfold eC
        rw [if_pos (by omega)]
        show rd 7 (d + 1) (byteI z :: byteI (k.len : Int) :: (eL k ++ x)) = _
        unfold rd
        have hl := hb (k.len : Int) (by omega) (by omega)
        rw [hb z (by omega) (by omega), if_neg (by omega), if_neg (by omega)]
        simp only
        rw [if_neg (by omega), show (byteI (k.len : Int)).toNat = k.len by omega]
        cases d with
        | zero =>
          exfalso
          cases k with
          | nil => exact hk0 rfl
          | cons _ _ k' r' => simp only [Cl.dep] at hd; omega
        | succ d =>
          rw [(rd_put k d x hk (by omega) (by omega)).2]
          simp only [hm]
      rcases vC_leaf hv.1 with ⟨rfl, rfl, rfl⟩ | ⟨rfl, rfl, rfl⟩ | ⟨rfl, h1, h2, rfl⟩ | ⟨rfl, h1, h2, rfl⟩ | ⟨rfl, h1, h2, rfl⟩ | ⟨rfl, h1, h2, rfl⟩ | ⟨hz, hm, h2, h3⟩
      · exact leaf0 0 (by omega) (by omega)
      · exact leaf0 1 (by omega) (by omega)
      · exact leaf1 2 (by omega) (by omega) (by omega) (by omega)
      · exact leaf1 3 (by omega) (by omega) (by omega) (by omega)
      · exact leaf1 4 (by omega) (by omega) (by omega) (by omega)
      · have : m ≤ 51 := by
          have e : bitsI BinOp.and IntKind.i64 51 m = IntKind.i64.wrap ((bv 51 &&& bv m).toNat : Int) := rfl
          have h3 : (bv 51 &&& bv m).toNat ≤ 51 := by
            rw [BitVec.toNat_and]
            exact Nat.le_trans Nat.and_le_left (by decide)
          rw [e, w64 (by omega) (by omega)] at h2
          omega
        exact leaf1 5 (by omega) (by omega) (by omega) (by omega)
      · exact inner o hz hm h2 h3
    refine ⟨fun o' m' k' r' e => ?_, ?_⟩
    · injection e with e1 e2 e3 e4
      subst e1; subst e2; subst e3; subst e4
      exact one _
    · have hr := (rd_put r d rest hv.2 (by omega) (by omega)).2
      rw [eL_cons, List.append_assoc]
      show rdL (rd 7 (d + 1)) (r.len + 1) _ = _
      unfold rdL
      rw [one]
      simp only
      rw [hr]
theorem rd_putC {o m : Int} {k : Cl} {d : Nat} (rest : List UInt8) (hv : vC o m k = true) (hn : k.nodes ≤ 254) (hd : k.dep ≤ d) : rd 7 (d + 1) (eC o m k ++ rest) = some ((o, m, k), rest) := by
  have := (rd_put (.cons o m k .nil) d rest hv (by simp only [Cl.nodes]; omega) (by simp only [Cl.dep]; omega)).1 o m k .nil rfl
  simpa [eL] using this
end Go.Proofs.Ytllnklkjkjmjbaa.En

/- Encoding data objects: what the program and the reference compute. -/
namespace Go.Proofs.Ytllnklkjkjmjbaa.En
open Go
set_option linter.unusedVariables false
def Tl.isNil : Tl → Bool
  | .nil => true
  | _ => false
def okL : Int → Tl → Bool
  | _, .nil => true
  | d, .cons t v k r => (decide (d ≤ 8) && (tagV t && (bif tagC t then v.isEmpty && okL (d + 1) k else k.isNil))) && okL d r
def encL : Tl → List UInt8
  | .nil => []
  | .cons t v k r => (tagB t ++ lenB ((bif tagC t then encL k else v).length : Int) ++ (bif tagC t then encL k else v)) ++ encL r
theorem encL_cons (t : Int) (v : List UInt8) (k r : Tl) : encL (.cons t v k r) = (tagB t ++ lenB ((bif tagC t then encL k else v).length : Int) ++ (bif tagC t then encL k else v)) ++ encL r := by
  conv => lhs; unfold encL
theorem isNil_len (k : Tl) : k.isNil = decide (k.len = 0) := by cases k <;> simp [Tl.isNil, Tl.len]
theorem tagB_len (t : Int) : 1 ≤ (tagB t).length ∧ (tagB t).length ≤ 2 := by unfold tagB; split <;> simp
theorem lenB_len (n : Int) : 1 ≤ (lenB n).length ∧ (lenB n).length ≤ 3 := by unfold lenB; (repeat' split) <;> simp
section
variable (N : Nat) (n : Nat) (d : Int)
abbrev L63 (k : Tl) : Prop := k.len ≤ 9223372036854775807
theorem mid (pre : List V) (x : V) (suf : List V) : pre ++ x :: suf = (pre ++ [x]) ++ suf := by simp
/-- What a step through a list knows. -/
theorem stepI (pre : List V) (x : V) (suf : List V) (h : pre.length + (suf.length + 1) ≤ 9223372036854775807) :
    (pre.length : Int) < ((pre ++ x :: suf).length : Int) ∧ (0 : Int) ≤ pre.length ∧ IntKind.i64.wrap ((pre.length : Int) + 1) = ((pre ++ [x]).length : Int) ∧ ((pre ++ x :: suf).length : Int) = (((pre ++ [x]) ++ suf).length : Int) := by
  refine ⟨by simp; omega, by omega, ?_, by simp⟩
  rw [w64 (by omega) (by omega)]; simp
theorem endI (pre : List V) : ¬ ((pre.length : Int) < ((pre ++ ([] : List V)).length : Int)) := by simp
theorem IndexFuncV_loop (f : List V → Int → Option Bool) (hd : -9223372036854775808 ≤ d ∧ d ≤ 1000) (hf : ∀ (k : Tl), d ≤ 8 → k.nodes < n → k.wf → L63 k → f k.enc (d + 1) = some (okL (d + 1) k)) :
    ∀ (l : Tl) (pre : List V) (t : Nat), l.len < t → l.nodes ≤ n → l.wf → pre.length + l.len ≤ 9223372036854775807 →
      ∃ i, S_IndexFuncV_2 N f (pre ++ l.enc) ((pre ++ l.enc).length : Int) d t (pre.length : Int) (fun n0 => some n0) (some (-1)) = some i ∧ decide (0 ≤ i) = !okL d l
  | l, pre, 0, ht, _, _, _ => by omega
  | .nil, pre, t + 1, ht, _, _, _ => by
    unfold S_IndexFuncV_2 F_IndexFuncV_2
    simp only [Tl.enc, br_t, br_f, br_dec, br_not, br_and, br_or, bnd1_mk, bnd2_mk, bnd3_mk, bnd4_mk, bnd5_mk, bnd10_mk, at_zero, at_succ, at_mid, unInt_mk, unBool_mk, unStr_mk, unBytes_mk, unSl_mk, unAgg_mk, unCons_mk, unNil_mk, endI, if_false]
    exact ⟨-1, rfl, by simp [okL]⟩
  | .cons tg v k r, pre, t + 1, ht, hn, hw, hl => by
    simp only [Tl.len, Tl.nodes] at ht hn hl
    obtain ⟨ht1, hv, hk1, hk2, hr⟩ := hw
    obtain ⟨h1, h2, h3, h4⟩ := stepI pre (.agg [.int .i64 tg, .bytes v, .sl 62 k.enc]) r.enc (by rw [Tl.enc_len]; exact hl)
    obtain ⟨i, ih1, ih2⟩ := IndexFuncV_loop f hd hf r (pre ++ [.agg [.int .i64 tg, .bytes v, .sl 62 k.enc]]) t (by omega) (by omega) hr (by simp; omega)
    rw [← mid, ← h3] at ih1
    unfold S_IndexFuncV_2 F_IndexFuncV_2 s_valid1 C_valid1 okL
    simp only [Tl.enc, br_t, br_f, br_dec, br_not, br_and, br_or, bnd1_mk, bnd2_mk, bnd3_mk, bnd4_mk, bnd5_mk, bnd10_mk, at_zero, at_succ, at_mid, unInt_mk, unBool_mk, unStr_mk, unBytes_mk, unSl_mk, unAgg_mk, unCons_mk, unNil_mk, h1, h2, if_true, Int.toNat_natCast, Valid_eq N tg ht1, Constructed_eq N tg ht1]
    by_cases c1 : 8 < d
    · rw [if_pos c1]
      exact ⟨_, by rw [bnd1_mk, br_t], by simp; omega⟩
    · rw [if_neg c1]
      cases tagV tg with
      | false => exact ⟨_, by rw [br_f, bnd1_mk, br_t], by simp⟩
      | true =>
        rw [br_t]
        cases tagC tg with
        | false =>
          rw [br_f, bnd1_mk, br_dec, Tl.enc_len]
          by_cases c2 : (0 : Int) < (k.len : Int)
          · rw [if_pos c2]; refine ⟨_, rfl, ?_⟩; simp [isNil_len]; omega
          · rw [if_neg c2]; refine ⟨i, ih1, ?_⟩
            rw [ih2]
            have : k.len = 0 := by omega
            simp [isNil_len, this, (by omega : d ≤ 8)]
        | true =>
          rw [br_t]
          by_cases c2 : (0 : Int) < (v.length : Int)
          · rw [if_pos c2]
            refine ⟨_, by rw [bnd1_mk, br_t], ?_⟩
            cases v with
            | nil => simp at c2
            | cons a b => simp
          · rw [if_neg c2]
            have hv0 : v = [] := List.length_eq_zero_iff.1 (by omega)
            subst hv0
            rw [w64 (n := d + 1) (by omega) (by omega), hf k (by omega) (by omega) hk2 hk1, bnd1_mk, bnd1_mk]
            cases okL (d + 1) k with
            | false => refine ⟨_, rfl, by simp⟩
            | true => refine ⟨i, ih1, ?_⟩; rw [ih2]; simp [(by omega : d ≤ 8)]
theorem valid_eq (N : Nat) : ∀ (M : Nat) (l : Tl) (d : Int), l.nodes < M → l.nodes < N → l.wf → L63 l → -9223372036854775808 ≤ d ∧ d ≤ 1000 → s_valid N M l.enc d = some (okL d l)
  | 0, l, d, h, _, _, _, _ => by omega
  | M + 1, l, d, h, hN, hw, hl, hd => by
    have := l.len_le
    obtain ⟨i, h1, h2⟩ := IndexFuncV_loop N l.nodes d (s_valid N M) hd (fun k hd8 hk hkw hkl => valid_eq N M k (d + 1) (by omega) (by omega) hkw hkl (by omega)) l [] N (by omega) (Nat.le_refl _) hw (by simpa using hl)
    simp only [List.nil_append, List.length_nil, Int.natCast_zero] at h1
    unfold s_valid B_valid s_ContainsFuncV C_ContainsFuncV s_IndexFuncV C_IndexFuncV
    have h1' : S_IndexFuncV_2 N (s_valid N M) l.enc (l.enc.length : Int) d N 0 (fun n0 => some n0) (some (-1)) = some i := h1
    rw [h1', bnd1_mk, bnd1_mk, h2, Bool.not_not]
theorem rright_loop (f : List V → Int → Option Bool) (hd : -9223372036854775808 ≤ d ∧ d ≤ 1000) (hf : ∀ (k : Tl), d ≤ 8 → k.nodes < n → k.wf → L63 k → f k.enc (d + 1) = some (okL (d + 1) k)) :
    ∀ (l : Tl) (pre : List V) (t : Nat), l.len < t → l.nodes ≤ n → l.wf → pre.length + l.len ≤ 9223372036854775807 →
      S_rright_2 N f (pre ++ l.enc) d t (pre.length : Int) (fun b => some b) (some true) = some (okL d l)
  | l, pre, 0, ht, _, _, _ => by omega
  | .nil, pre, t + 1, ht, _, _, _ => by
    unfold S_rright_2 F_rright_2
    simp only [Tl.enc, br_t, br_f, br_dec, br_not, br_and, br_or, bnd1_mk, bnd2_mk, bnd3_mk, bnd4_mk, bnd5_mk, bnd10_mk, at_zero, at_succ, at_mid, unInt_mk, unBool_mk, unStr_mk, unBytes_mk, unSl_mk, unAgg_mk, unCons_mk, unNil_mk, endI, if_false, okL]
  | .cons tg v k r, pre, t + 1, ht, hn, hw, hl => by
    simp only [Tl.len, Tl.nodes] at ht hn hl
    obtain ⟨ht1, hv, hk1, hk2, hr⟩ := hw
    obtain ⟨h1, h2, h3, h4⟩ := stepI pre (.agg [.int .i64 tg, .bytes v, .sl 62 k.enc]) r.enc (by rw [Tl.enc_len]; exact hl)
    have ih := rright_loop f hd hf r (pre ++ [.agg [.int .i64 tg, .bytes v, .sl 62 k.enc]]) t (by omega) (by omega) hr (by simp; omega)
    rw [← mid, ← h3] at ih
    unfold S_rright_2 F_rright_2 okL
    simp only [Tl.enc, br_t, br_f, br_dec, br_not, br_and, br_or, bnd1_mk, bnd2_mk, bnd3_mk, bnd4_mk, bnd5_mk, bnd10_mk, at_zero, at_succ, at_mid, unInt_mk, unBool_mk, unStr_mk, unBytes_mk, unSl_mk, unAgg_mk, unCons_mk, unNil_mk, h1, h2, if_true, Int.toNat_natCast, rValid_eq N tg ht1, rConstructed_eq N tg ht1]
    by_cases c1 : 8 < d
    · rw [if_pos c1]; simp; omega
    · rw [if_neg c1]
      have c1' : d ≤ 8 := by omega
      simp only [c1', decide_true, Bool.true_and]
      cases tagV tg with
      | false => rfl
      | true =>
        rw [br_t]
        cases tagC tg with
        | false =>
          simp only [br_f, Tl.enc_len, cond_false, Bool.true_and]
          by_cases c2 : (0 : Int) < (k.len : Int)
          · rw [if_pos c2]; simp [isNil_len]; omega
          · rw [if_neg c2, ih]
            have : k.len = 0 := by omega
            simp [isNil_len, this]
        | true =>
          simp only [br_t, cond_true, Bool.true_and]
          by_cases c2 : (0 : Int) < (v.length : Int)
          · rw [if_pos c2]
            cases v with
            | nil => simp at c2
            | cons a b => rfl
          · rw [if_neg c2]
            have hv0 : v = [] := List.length_eq_zero_iff.1 (by omega)
            subst hv0
            rw [w64 (n := d + 1) (by omega) (by omega), hf k c1' (by omega) hk2 hk1, bnd1_mk]
            cases okL (d + 1) k with
            | false => rfl
            | true => rw [br_t, ih]; rfl
theorem rright_eq (N : Nat) : ∀ (M : Nat) (l : Tl) (d : Int), l.nodes < M → l.nodes < N → l.wf → L63 l → -9223372036854775808 ≤ d ∧ d ≤ 1000 → s_rright N M l.enc d = some (okL d l)
  | 0, l, d, h, _, _, _, _ => by omega
  | M + 1, l, d, h, hN, hw, hl, hd => by
    have := l.len_le
    exact rright_loop N l.nodes d (s_rright N M) hd (fun k hd8 hk hkw hkl => rright_eq N M k (d + 1) (by omega) (by omega) hkw hkl (by omega)) l [] N (by omega) (Nat.le_refl _) hw (by simpa using hl)
/-! size -/
theorem size_loop (f : List V → Option Int)
    (hf : ∀ (k : Tl), k.nodes < n → k.wf → L63 k → k.wt ≤ 20000 → okL (d + 1) k = true → ∃ s, f k.enc = some s ∧ (((encL k).length : Int) ≤ 4096 → s = (encL k).length) ∧ (4096 < ((encL k).length : Int) → 4096 < s) ∧ 0 ≤ s ∧ s ≤ 5 * k.wt) :
    ∀ (l : Tl) (pre : List V) (t : Nat) (n0 : Int), l.len < t → l.nodes ≤ n → l.wf → pre.length + l.len ≤ 9223372036854775807 → l.wt ≤ 20000 → okL d l = true → 0 ≤ n0 → n0 ≤ 4096 →
      ∃ s, S_size_3 N f (pre ++ l.enc) ((pre ++ l.enc).length : Int) t n0 (pre.length : Int) (fun n0 => some n0) = some s ∧ (n0 + (encL l).length ≤ 4096 → s = n0 + (encL l).length) ∧ (4096 < n0 + (encL l).length → 4096 < s) ∧ n0 ≤ s ∧ s ≤ n0 + 5 * l.wt
  | l, pre, 0, n0, ht, _, _, _, _, _, _, _ => by omega
  | .nil, pre, t + 1, n0, ht, _, _, _, _, _, _, _ => by
    unfold S_size_3 F_size_3
    simp only [Tl.enc, br_t, br_f, br_dec, br_not, br_and, br_or, bnd1_mk, bnd2_mk, bnd3_mk, bnd4_mk, bnd5_mk, bnd10_mk, at_zero, at_succ, at_mid, unInt_mk, unBool_mk, unStr_mk, unBytes_mk, unSl_mk, unAgg_mk, unCons_mk, unNil_mk, endI, if_false]
    exact ⟨n0, rfl, fun _ => by simp [encL], fun h => by simp [encL] at h; omega, Int.le_refl _, by omega⟩
  | .cons tg v k r, pre, t + 1, n0, ht, hn, hw, hl, hwt, hok, hn0, hn1 => by
    simp only [Tl.len, Tl.nodes, Tl.wt] at ht hn hl hwt
    obtain ⟨ht1, hv, hk1, hk2, hr⟩ := hw
    obtain ⟨h1, h2, h3, h4⟩ := stepI pre (.agg [.int .i64 tg, .bytes v, .sl 62 k.enc]) r.enc (by rw [Tl.enc_len]; exact hl)
    unfold okL at hok
    simp only [Bool.and_eq_true] at hok
    obtain ⟨⟨hd8, htv, hb⟩, hokr⟩ := hok
    -- the kids
    have hkid : ∃ s, f k.enc = some s ∧ (((bif tagC tg then encL k else v).length : Int) ≤ 4096 → (v.length : Int) + s = (bif tagC tg then encL k else v).length) ∧ (4096 < ((bif tagC tg then encL k else v).length : Int) → 4096 < (v.length : Int) + s) ∧ 0 ≤ s ∧ s ≤ 5 * k.wt := by
      cases hc : tagC tg with
      | true =>
        rw [hc] at hb
        simp only [cond_true, Bool.and_eq_true] at hb
        have hv0 : v = [] := by cases v with | nil => rfl | cons a b => simp at hb
        subst hv0
        obtain ⟨s, s1, s2, s3, s4, s5⟩ := hf k (by omega) hk2 hk1 (by omega) hb.2
        exact ⟨s, s1, fun h => by rw [s2 h]; simp, fun h => by have := s3 h; simp; omega, s4, s5⟩
      | false =>
        rw [hc] at hb
        simp only [cond_false] at hb
        have hk0 : k = .nil := by cases k with | nil => rfl | cons a b c d => simp [Tl.isNil] at hb
        subst hk0
        obtain ⟨s, s1, s2, s3, s4, s5⟩ := hf .nil (by have : Tl.nil.nodes = 0 := rfl; omega) trivial (Nat.zero_le _) (Nat.zero_le _) rfl
        have hs0 : s = 0 := by have := s2 (by simp [encL]); simpa [encL] using this
        subst hs0
        exact ⟨0, s1, fun h => Int.add_zero _, fun h => by rw [Int.add_zero]; exact h, Int.le_refl _, by omega⟩
    obtain ⟨s, s1, s2, s3, s4, s5⟩ := hkid
    have hE : (encL (.cons tg v k r)).length = (tagB tg).length + (lenB ((bif tagC tg then encL k else v).length : Int)).length + (bif tagC tg then encL k else v).length + (encL r).length := by
      rw [encL_cons]; simp only [List.length_append]
    rw [hE]
    generalize hB : (bif tagC tg then encL k else v) = B at *
    have ht2 := tagB_len tg
    have hl2 := lenB_len ((v.length : Int) + s)
    have hl3 := lenB_len (B.length : Int)
    unfold S_size_3 F_size_3
    have w1 : IntKind.i64.wrap ((v.length : Int) + s) = v.length + s := w64 (by omega) (by omega)
    simp only [Tl.enc, br_t, br_f, br_dec, br_not, br_and, br_or, bnd1_mk, bnd2_mk, bnd3_mk, bnd4_mk, bnd5_mk, bnd10_mk, at_zero, at_succ, at_mid, unInt_mk, unBool_mk, unStr_mk, unBytes_mk, unSl_mk, unAgg_mk, unCons_mk, unNil_mk, h1, h2, if_true, Int.toNat_natCast, s1, tagBytes_eq, w1, lengthBytes_eq]
    have w2 : IntKind.i64.wrap (((tagB tg).length : Int) + ((lenB ((v.length : Int) + s)).length : Int)) = (tagB tg).length + (lenB ((v.length : Int) + s)).length := w64 (by omega) (by omega)
    rw [w2]
    have w3 : IntKind.i64.wrap (((tagB tg).length : Int) + ((lenB ((v.length : Int) + s)).length : Int) + ((v.length : Int) + s)) = (tagB tg).length + (lenB ((v.length : Int) + s)).length + (v.length + s) := w64 (by omega) (by omega)
    rw [w3]
    have w4 : IntKind.i64.wrap (n0 + (((tagB tg).length : Int) + ((lenB ((v.length : Int) + s)).length : Int) + ((v.length : Int) + s))) = n0 + ((tagB tg).length + (lenB ((v.length : Int) + s)).length + (v.length + s)) := w64 (by omega) (by omega)
    rw [w4]
    by_cases c1 : 4096 < n0 + (((tagB tg).length : Int) + ((lenB ((v.length : Int) + s)).length : Int) + ((v.length : Int) + s))
    · rw [if_pos c1]
      refine ⟨_, rfl, fun h => ?_, fun _ => c1, by omega, by simp only [Tl.wt]; omega⟩
      exfalso
      have e1 := s2 (by omega)
      rw [e1] at c1
      omega
    · rw [if_neg c1]
      have e1 : (v.length : Int) + s = B.length := by
        by_cases hb4 : (B.length : Int) ≤ 4096
        · exact s2 hb4
        · have := s3 (by omega); omega
      rw [e1] at c1 ⊢
      obtain ⟨q, q1, q2, q3, q4, q5⟩ := size_loop f hf r (pre ++ [.agg [.int .i64 tg, .bytes v, .sl 62 k.enc]]) t (n0 + (((tagB tg).length : Int) + ((lenB (B.length : Int)).length : Int) + (B.length : Int))) (by omega) (by omega) hr (by simp; omega) (by omega) hokr (by omega) (by omega)
      rw [← mid, ← h3] at q1
      refine ⟨q, q1, fun h => by rw [q2 (by omega)]; omega, fun h => q3 (by omega), by omega, by simp only [Tl.wt]; omega⟩
theorem size_eq (N : Nat) : ∀ (M : Nat) (l : Tl) (d : Int), l.nodes < M → l.nodes < N → l.wf → L63 l → l.wt ≤ 20000 → okL d l = true →
    ∃ s, s_size N M l.enc = some s ∧ (((encL l).length : Int) ≤ 4096 → s = (encL l).length) ∧ (4096 < ((encL l).length : Int) → 4096 < s) ∧ 0 ≤ s ∧ s ≤ 5 * l.wt
  | 0, l, d, h, _, _, _, _, _ => by omega
  | M + 1, l, d, h, hN, hw, hl, hwt, hok => by
    have := l.len_le
    obtain ⟨s, s1, s2, s3, s4, s5⟩ := size_loop N l.nodes d (s_size N M) (fun k hk hkw hkl hkwt hkok => size_eq N M k (d + 1) (by omega) (by omega) hkw hkl hkwt hkok) l [] N 0 (by omega) (Nat.le_refl _) hw (by simpa using hl) hwt hok (by omega) (by omega)
    unfold s_size B_size
    refine ⟨s, s1, fun h => by rw [s2 (by omega)]; omega, fun h => s3 (by omega), by omega, by omega⟩
/-! encode, all -/
theorem concat4 (a b c e : List UInt8) (h : a.length + b.length + c.length + e.length ≤ 1000000) : s_concat N [.bytes a, .bytes b, .bytes c, .bytes e] = some (a ++ (b ++ c ++ e)) := by
  unfold s_concat
  simp only [flatB, Option.bind_some, br_dec]
  rw [if_pos (by simp; omega)]
  simp
theorem encode_loop (f : List V → Option (List UInt8)) (hf : ∀ (k : Tl), k.nodes < n → k.wf → L63 k → (encL k).length ≤ 4096 → f k.enc = some (encL k)) :
    ∀ (l : Tl) (pre : List V) (t : Nat) (acc : List UInt8), l.len < t → l.nodes ≤ n → l.wf → pre.length + l.len ≤ 9223372036854775807 → acc.length + (encL l).length ≤ 4096 →
      S_encode_3 N f (pre ++ l.enc) ((pre ++ l.enc).length : Int) t acc (pre.length : Int) (fun l0 => some l0) = some (acc ++ encL l)
  | l, pre, 0, acc, ht, _, _, _, _ => by omega
  | .nil, pre, t + 1, acc, ht, _, _, _, _ => by
    unfold S_encode_3 F_encode_3
    simp only [Tl.enc, br_t, br_f, br_dec, br_not, br_and, br_or, bnd1_mk, bnd2_mk, bnd3_mk, bnd4_mk, bnd5_mk, bnd10_mk, at_zero, at_succ, at_mid, unInt_mk, unBool_mk, unStr_mk, unBytes_mk, unSl_mk, unAgg_mk, unCons_mk, unNil_mk, endI, if_false]
    simp [encL]
  | .cons tg v k r, pre, t + 1, acc, ht, hn, hw, hl, hE => by
    simp only [Tl.len, Tl.nodes] at ht hn hl
    obtain ⟨ht1, hv, hk1, hk2, hr⟩ := hw
    obtain ⟨h1, h2, h3, h4⟩ := stepI pre (.agg [.int .i64 tg, .bytes v, .sl 62 k.enc]) r.enc (by rw [Tl.enc_len]; exact hl)
    rw [encL_cons] at hE ⊢
    have ht2 := tagB_len tg
    unfold S_encode_3 F_encode_3
    simp only [Tl.enc, br_t, br_f, br_dec, br_not, br_and, br_or, bnd1_mk, bnd2_mk, bnd3_mk, bnd4_mk, bnd5_mk, bnd10_mk, at_zero, at_succ, at_mid, unInt_mk, unBool_mk, unStr_mk, unBytes_mk, unSl_mk, unAgg_mk, unCons_mk, unNil_mk, h1, h2, if_true, Int.toNat_natCast, Constructed_eq N tg ht1, tagBytes_eq, lengthBytes_eq]
    generalize hB : (bif tagC tg then encL k else v) = B at *
    simp only [List.length_append] at hE
    have ih := encode_loop f hf r (pre ++ [.agg [.int .i64 tg, .bytes v, .sl 62 k.enc]]) t (acc ++ (tagB tg ++ lenB (B.length : Int) ++ B)) (by omega) (by omega) hr (by simp; omega) (by simp; omega)
    rw [← mid, ← h3] at ih
    cases hc : tagC tg with
    | true =>
      rw [hc] at hB
      simp only [cond_true] at hB
      subst hB
      rw [br_t, hf k (by omega) hk2 hk1 (by omega), bnd1_mk, concat4 N _ _ _ _ (by omega), bnd1_mk, ih]; simp
    | false =>
      rw [hc] at hB
      simp only [cond_false] at hB
      subst hB
      rw [br_f, concat4 N _ _ _ _ (by omega), bnd1_mk, ih]; simp
theorem encode_eq (N : Nat) : ∀ (M : Nat) (l : Tl), l.nodes < M → l.nodes < N → l.wf → L63 l → (encL l).length ≤ 4096 → s_encode N M l.enc = some (encL l)
  | 0, l, h, _, _, _, _ => by omega
  | M + 1, l, h, hN, hw, hl, hE => by
    have := l.len_le
    exact encode_loop N l.nodes (s_encode N M) (fun k hk hkw hkl hkE => encode_eq N M k (by omega) (by omega) hkw hkl hkE) l [] N [] (by omega) (Nat.le_refl _) hw (by simpa using hl) (by simpa using hE)
/-- Encode -/
def encR (l : Tl) : List UInt8 × Int := if okL 1 l = true then (if (encL l).length ≤ 4096 then (encL l, 0) else ([], 3)) else ([], 1)
theorem Encode_eq (l : Tl) (h : l.nodes < N) (hw : l.wf) (hl : L63 l) (hwt : l.wt ≤ 20000) : s_Encode N l.enc = some (encR l) := by
  unfold s_Encode encR
  rw [valid_eq N N l 1 h h hw hl (by omega), bnd1_mk, br_not]
  cases hok : okL 1 l with
  | false => rfl
  | true =>
    obtain ⟨s, s1, s2, s3, s4, s5⟩ := size_eq N N l 1 h h hw hl hwt hok
    simp only [br_t, if_true, s1, bnd1_mk, br_dec]
    by_cases hE : (encL l).length ≤ 4096
    · rw [if_pos hE, s2 (by omega), if_neg (by omega), encode_eq N N l h h hw hl hE, bnd1_mk]
    · rw [if_neg hE, if_pos (s3 (by omega))]
theorem rall_loop (f : List V → Option (List UInt8 × Bool)) (hf : ∀ (k : Tl), k.nodes < n → k.wf → L63 k → okL (d + 1) k = true → k.wt ≤ 20000 → f k.enc = some (if (encL k).length ≤ 4096 then (encL k, true) else ([], false))) :
    ∀ (l : Tl) (pre : List V) (t : Nat) (acc : List UInt8), l.len < t → l.nodes ≤ n → l.wf → pre.length + l.len ≤ 9223372036854775807 → okL d l = true → l.wt ≤ 20000 → acc.length ≤ 4096 →
      S_rall_3 N f (pre ++ l.enc) t acc (pre.length : Int) (fun l0 b1 l2 => some (l0, b1)) (fun l3 => some (l3, true)) = some (if acc.length + (encL l).length ≤ 4096 then (acc ++ encL l, true) else ([], false))
  | l, pre, 0, acc, ht, _, _, _, _, _, _ => by omega
  | .nil, pre, t + 1, acc, ht, _, _, _, _, _, ha => by
    unfold S_rall_3 F_rall_3
    simp only [Tl.enc, br_t, br_f, br_dec, br_not, br_and, br_or, bnd1_mk, bnd2_mk, bnd3_mk, bnd4_mk, bnd5_mk, bnd10_mk, at_zero, at_succ, at_mid, unInt_mk, unBool_mk, unStr_mk, unBytes_mk, unSl_mk, unAgg_mk, unCons_mk, unNil_mk, endI, if_false]
    simp [encL, ha]
  | .cons tg v k r, pre, t + 1, acc, ht, hn, hw, hl, hok, hwt, ha => by
    simp only [Tl.len, Tl.nodes, Tl.wt] at ht hn hl hwt
    obtain ⟨ht1, hv, hk1, hk2, hr⟩ := hw
    obtain ⟨h1, h2, h3, h4⟩ := stepI pre (.agg [.int .i64 tg, .bytes v, .sl 62 k.enc]) r.enc (by rw [Tl.enc_len]; exact hl)
    unfold okL at hok
    simp only [Bool.and_eq_true] at hok
    obtain ⟨⟨hd8, htv, hb⟩, hokr⟩ := hok
    have htr := tagV_range htv
    rw [encL_cons]
    have ht2 := tagB_len tg
    unfold S_rall_3 F_rall_3
    simp only [Tl.enc, br_t, br_f, br_dec, br_not, br_and, br_or, bnd1_mk, bnd2_mk, bnd3_mk, bnd4_mk, bnd5_mk, bnd10_mk, at_zero, at_succ, at_mid, unInt_mk, unBool_mk, unStr_mk, unBytes_mk, unSl_mk, unAgg_mk, unCons_mk, unNil_mk, h1, h2, if_true, Int.toNat_natCast, rConstructed_eq N tg ht1]
    have fin : ∀ (B : List UInt8), B.length ≤ 4096 → (bnd1 (s_rhead N tg (B.length : Int)) fun l59 =>
        if (acc.length + l59.length) * 1 ≤ 140737488355328 then
          if ((acc ++ l59).length + B.length) * 1 ≤ 140737488355328 then
            if 4096 < ((acc ++ l59 ++ B).length : Int) then some ([], false) else S_rall_3 N f (pre ++ .agg [.int .i64 tg, .bytes v, .sl 62 k.enc] :: r.enc) t (acc ++ l59 ++ B) (IntKind.i64.wrap ((pre.length : Int) + 1)) (fun l0 b1 l2 => some (l0, b1)) (fun l3 => some (l3, true))
          else none
        else none) = some (if acc.length + (tagB tg ++ lenB (B.length : Int) ++ B ++ encL r).length ≤ 4096 then (acc ++ (tagB tg ++ lenB (B.length : Int) ++ B ++ encL r), true) else ([], false)) := by
      intro B hB
      have hl2 := lenB_len (B.length : Int)
      rw [rhead_eq N tg _ (by omega) (by omega), bnd1_mk]
      simp only [List.length_append]
      rw [if_pos (by omega), if_pos (by omega)]
      by_cases c : 4096 < acc.length + ((tagB tg).length + (lenB (B.length : Int)).length) + B.length
      · rw [if_pos (by omega), if_neg (by omega)]
      · rw [if_neg (by omega)]
        have ih := rall_loop f hf r (pre ++ [.agg [.int .i64 tg, .bytes v, .sl 62 k.enc]]) t (acc ++ (tagB tg ++ lenB (B.length : Int)) ++ B) (by omega) (by omega) hr (by simp; omega) hokr (by omega) (by simp; omega)
        rw [← mid, ← h3] at ih
        rw [ih]
        simp only [List.length_append, List.append_assoc]
        congr 1
        by_cases c2 : acc.length + ((tagB tg).length + ((lenB (B.length : Int)).length + (B.length + (encL r).length))) ≤ 4096
        · rw [if_pos (by omega), if_pos (by omega)]
        · rw [if_neg (by omega), if_neg (by omega)]
    cases hc : tagC tg with
    | true =>
      rw [hc] at hb
      simp only [cond_true, Bool.and_eq_true] at hb
      rw [br_t, hf k (by omega) hk2 hk1 hb.2 (by omega)]
      simp only [cond_true]
      by_cases cE : (encL k).length ≤ 4096
      · rw [if_pos cE, bnd2_mk, br_t, if_neg (by omega)]
        exact fin (encL k) cE
      · rw [if_neg cE, bnd2_mk, br_f, if_neg (by simp only [List.length_append]; omega)]
    | false =>
      rw [br_f]
      simp only [cond_false]
      by_cases cE : v.length ≤ 4096
      · rw [if_neg (by omega)]
        exact fin v cE
      · rw [if_pos (by omega), if_neg (by simp only [List.length_append]; omega)]
theorem rall_eq (N : Nat) : ∀ (M : Nat) (l : Tl) (d : Int), l.nodes < M → l.nodes < N → l.wf → L63 l → okL d l = true → l.wt ≤ 20000 → s_rall N M l.enc = some (if (encL l).length ≤ 4096 then (encL l, true) else ([], false))
  | 0, l, d, h, _, _, _, _, _ => by omega
  | M + 1, l, d, h, hN, hw, hl, hok, hwt => by
    have := l.len_le
    have := rall_loop N l.nodes d (s_rall N M) (fun k hk hkw hkl hkok hkwt => rall_eq N M k (d + 1) (by omega) (by omega) hkw hkl hkok hkwt) l [] N [] (by omega) (Nat.le_refl _) hw (by simpa using hl) hok hwt (by simp)
    unfold s_rall B_rall
    simpa using this
theorem rEncode_eq (l : Tl) (h : l.nodes < N) (hw : l.wf) (hl : L63 l) (hwt : l.wt ≤ 20000) : s_rEncode N l.enc = some (encR l) := by
  unfold s_rEncode s_rRight encR
  rw [rright_eq N N l 1 h h hw hl (by omega), bnd1_mk, bnd1_mk, br_not]
  cases hok : okL 1 l with
  | false => rfl
  | true =>
    rw [br_t, rall_eq N N l 1 h h hw hl hok hwt]
    simp only [if_true]
    by_cases hE : (encL l).length ≤ 4096
    · rw [if_pos hE, if_pos hE]; rfl
    · rw [if_neg hE, if_neg hE]; rfl
end
end Go.Proofs.Ytllnklkjkjmjbaa.En
