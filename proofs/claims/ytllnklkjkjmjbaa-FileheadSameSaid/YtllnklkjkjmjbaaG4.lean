/- Several texts in one. -/
import Derived.Test.YtllnklkjkjmjbaaG3
import Derived.Test.YtllnklkjkjmjbaaG2
import Derived.ProofKit
import Derived.OpenShut
import Derived.ChangeOld
import Derived.Below

set_option linter.unusedSimpArgs false
set_option linter.unusedVariables false
set_option linter.unusedSectionVars false
/- Functions of the program in plain Lean, joined to the program by evaluation; printed by a program. -/
namespace Go.Proofs.Ytllnklkjkjmjbaa.En
open Go Go.Proofs
set_option maxRecDepth 100000
set_option linter.unusedVariables false
noncomputable def e_aEncode {R : Type} (s : List V → Option (List UInt8 × Int)) (ds : List D) (K : List D → Option R) : Option R :=
  match ds with
  | [.v (.sl 48 x0) .no] => bnd2 (s x0) fun r0 r1 => K [.v (.bytes r0) .no, .v (.int .i64 r1) .no]
  | _ => none
noncomputable def r_aEncode (rs : List D) (_ : Mem) : Option (List UInt8 × Int) :=
  match rs with
  | [.v (.bytes r0) _, .v (.int .i64 r1) _] => some (r0, r1)
  | _ => none
noncomputable def F_aEncode_6 {R : Type} (N : Nat) (vs1 : List V) (n2 : Int) (Lq : List V → Int → Option R) (K0 : List V → Option R) (vs0 : List V) (n3 : Int) : Option R :=
  br (decide (n3 < n2))
  (br (decide (0 ≤ n3) && decide (n3 < (↑vs1.length : Int)))
    (at? vs1 n3.toNat fun x0 =>
      x0.unAgg fun l1 =>
        unCons l1 fun x2 l3 =>
          V.unInt IntKind.i64 x2 fun n4 =>
            unCons l3 fun x5 l6 =>
              V.unInt IntKind.i64 x5 fun n7 =>
                unCons l6 fun x8 l9 =>
                  V.unInt IntKind.i64 x8 fun n10 =>
                    unCons l9 fun x11 l12 =>
                      V.unSl 46 x11 fun l13 =>
                        unNil l12
                          (bnd1 (s_aencode N N n7 n10 l13) fun l14 =>
                            br (decide (([UInt8.ofNat (IntKind.u8.wrap n4).toNat].length + l14.length) * 1 ≤ 140737488355328))
                              (br (decide ((vs0.length + [V.agg [V.int IntKind.i64 128, V.bytes (UInt8.ofNat (IntKind.u8.wrap n4).toNat :: [].append l14), V.sl 62 []]].length) * 56 ≤ 140737488355328))
                                (Lq (vs0 ++ [V.agg [V.int IntKind.i64 128, V.bytes (UInt8.ofNat (IntKind.u8.wrap n4).toNat :: [].append l14), V.sl 62 []]]) (IntKind.i64.wrap (n3 + 1))) none)
                              none))
    none)
  (K0 vs0)
noncomputable def S_aEncode_6 {R : Type} (N : Nat) (vs1 : List V) (n2 : Int) : Nat → List V → Int → (List V → Option R) → Option R
  | 0, _, _, _ => none
  | t + 1, vs0, n3, K0 => F_aEncode_6 N vs1 n2 (fun vs0 n3 => S_aEncode_6 N vs1 n2 t vs0 n3 K0) K0 vs0 n3
noncomputable def l_aEncode_6 {R : Type} (N : Nat) (ds : List D) (m : Mem) (K : Ex → List D → Mem → Option R) : Option R :=
  match ds, m with
  | [(.v (.sl 62 vs0) (.own (.slot 5) 62)), (.v (.sl 48 vs1) .no), (.v (.int .i64 n2) .no), (.v (.int .i64 n3) .no)], [[]] => S_aEncode_6 N vs1 n2 N vs0 n3 (fun a0 => K (.exit 0) [(.v (.sl 62 a0) (.own (.slot 5) 62))] [[]])
  | _, _ => none
noncomputable def s_aEncode (N : Nat) (x0 : List V) : Option (List UInt8 × Int) :=
  bnd1 (s_aCheckRules N x0) fun n0 => br (!decide (n0 = 0)) (some ([], n0)) (S_aEncode_6 N x0 (↑x0.length : Int) N [] 0 fun l1 => bnd2 (s_Encode N l1) fun l2 n3 => some (l2, n3))
noncomputable def cx_aEncode (N : Nat) : Cx := { T := T, isPure := tabP [⟨30, e_aCheckRules (s_aCheckRules N)⟩, ⟨87, e_aencode (s_aencode N N)⟩, ⟨41, e_Encode (s_Encode N)⟩], pureK := fun g ds K => tabK [⟨30, e_aCheckRules (s_aCheckRules N)⟩, ⟨87, e_aencode (s_aencode N N)⟩, ⟨41, e_Encode (s_Encode N)⟩] g ds K, memK := fun g dst ds m K => tabMK [] g dst ds m K, meth := tabM [], keep := fun r => match r with | 6 => [5, 13, 14, 15] | _ => [], keepX := fun r => match r with | 6 => [5] | _ => [], loopT := fun r ds m K => match r with | 6 => l_aEncode_6 N ds m K | _ => none, jumps := 9 }
theorem F_aEncode_6_ok {R : Type} (N : Nat) (vs1 : List V) (n2 : Int) (vs0 : List V) (n3 : Int) (L : List D → Mem → Option R) (K : Ex → List D → Mem → Option R) :
    roundK (fun st K => codeK (cx_aEncode N) (loopN Try.f62 0) st K) 36 [5, 13, 14, 15] [5] L [(.v (.sl 62 vs0) (.own (.slot 5) 62)), (.v (.sl 48 vs1) .no), (.v (.int .i64 n2) .no), (.v (.int .i64 n3) .no)] [[]] K = F_aEncode_6 N vs1 n2 (fun vs0 n3 => L [(.v (.sl 62 vs0) (.own (.slot 5) 62)), (.v (.sl 48 vs1) .no), (.v (.int .i64 n2) .no), (.v (.int .i64 n3) .no)] [[]]) (fun a0 => K (.exit 0) [(.v (.sl 62 a0) (.own (.slot 5) 62))] [[]]) vs0 n3 := by
  kernel_rfl
theorem S_aEncode_6_ok {R : Type} (N : Nat) (vs1 : List V) (n2 : Int) (K : Ex → List D → Mem → Option R) : ∀ (t : Nat) (vs0 : List V) (n3 : Int),
    loopK (fun st K => codeK (cx_aEncode N) (loopN Try.f62 0) st K) 36 [5, 13, 14, 15] [5] t [(.v (.sl 62 vs0) (.own (.slot 5) 62)), (.v (.sl 48 vs1) .no), (.v (.int .i64 n2) .no), (.v (.int .i64 n3) .no)] [[]] K = S_aEncode_6 N vs1 n2 t vs0 n3 (fun a0 => K (.exit 0) [(.v (.sl 62 a0) (.own (.slot 5) 62))] [[]])
  | 0, vs0, n3 => rfl
  | t + 1, vs0, n3 => (F_aEncode_6_ok N vs1 n2 vs0 n3 _ K).trans (congrArg (fun L => F_aEncode_6 N vs1 n2 L (fun a0 => K (.exit 0) [(.v (.sl 62 a0) (.own (.slot 5) 62))] [[]]) vs0 n3) (funext fun vs0 => funext fun n3 => S_aEncode_6_ok N vs1 n2 K t vs0 n3))
theorem s_aEncode_ok (N : Nat) (x0 : List V) : bodyK (cx_aEncode N) Try.f62 [.v (.sl 48 x0) .no] [] r_aEncode = s_aEncode N x0 := by
  kernel_rfl
theorem go_aEncode : Goes Try.prog 62 := goes_of Try.func62 (by kernel_rfl) (c := bodyOf Try.f62) (by kernel_rfl)
theorem eo_aEncode (s : List V → Option (List UInt8 × Int)) (hs : ∀ (x0 : List V) (r0 : List UInt8) (r1 : Int), s x0 = some (r0, r1) → PureRet Try.prog T 62 [.v (.sl 48 x0) .no] [.v (.bytes r0) .no, .v (.int .i64 r1) .no]) : EntOK Try.prog T ⟨62, e_aEncode s⟩ := by
  refine ⟨go_aEncode, fun R ds K r h => ?_, fun R ds K => ?_⟩
  · simp only [e_aEncode] at h
    split at h
    · obtain ⟨r0, r1, h1, h2⟩ := bnd2_some h
      exact ⟨_, h2, hs _ _ _ h1⟩
    · cases h
  · simp only [e_aEncode]
    split
    · rw [bnd2_b]; rfl
    · rfl
theorem co_aEncode (N : Nat) : CxOK Try.prog (cx_aEncode N) :=
  cxOK_of2 (es := [⟨30, e_aCheckRules (s_aCheckRules N)⟩, ⟨87, e_aencode (s_aencode N N)⟩, ⟨41, e_Encode (s_Encode N)⟩]) (me := []) (ms := []) T_ok ⟨eo_aCheckRules _ (p_aCheckRules N), eo_aencode _ (p_aencode N N), eo_Encode _ (p_Encode N), trivial⟩ trivial trivial rfl (fun _ _ _ _ => rfl) (fun _ _ _ _ _ _ => rfl) rfl
theorem lk_aEncode_6 (N : Nat) : LoopOK (cx_aEncode N) 36 (loopN Try.f62 0) := by
  refine loopOK_of (rid := 6) (by kernel_rfl) rfl rfl fun R ds m K r h => ?_
  have h : l_aEncode_6 N ds m K = some r := h
  unfold l_aEncode_6 at h
  split at h
  · exact ⟨N, Eq.trans (S_aEncode_6_ok ..) h⟩
  · cases h
theorem lo_aEncode (N : Nat) : LoopsOK (cx_aEncode N) Try.f62.ntmps (bodyOf Try.f62) :=
  loopsOK_of (k := 1) (by kernel_rfl) ⟨trivial, lk_aEncode_6 N⟩
theorem p_aEncode (N : Nat) (x0 : List V) (r0 : List UInt8) (r1 : Int) (h : s_aEncode N x0 = some (r0, r1)) : PureRet Try.prog T 62 [.v (.sl 48 x0) .no] [.v (.bytes r0) .no, .v (.int .i64 r1) .no] :=
  pure_of (cx := cx_aEncode N) (by kernel_rfl) (co_aEncode N) Try.func62 (by kernel_rfl) (by kernel_rfl) (lo_aEncode N) rfl rfl rfl (rf := r_aEncode) ((s_aEncode_ok N x0).trans h) (fun rs' m h => by
    unfold r_aEncode at h
    split at h
    · cases h; exact ⟨rfl, rfl⟩
    · cases h)
noncomputable def e_nodeOf {R : Type} (s : Int → Int → List V → Option (Int × Int × Int)) (ds : List D) (K : List D → Option R) : Option R :=
  match ds with
  | [.agg [.v (.int .i64 x0) .no, .v (.int .i64 x1) .no, .v (.sl 46 x2) .no]] => bnd3 (s x0 x1 x2) fun r0 r1 r2 => K [.agg [.v (.int .i64 r0) .no, .v (.int .i64 r1) .no, .v (.int .i64 r2) .no]]
  | _ => none
noncomputable def r_nodeOf (rs : List D) (_ : Mem) : Option (Int × Int × Int) :=
  match rs with
  | [.agg [.v (.int .i64 r0) _, .v (.int .i64 r1) _, .v (.int .i64 r2) _]] => some (r0, r1, r2)
  | _ => none
noncomputable def s_nodeOf (N : Nat) (x0 : Int) (x1 : Int) (x2 : List V) : Option (Int × Int × Int) :=
  some (x0, x1, (↑x2.length : Int))
noncomputable def cx_nodeOf (N : Nat) : Cx := { T := T, isPure := tabP [], pureK := fun g ds K => tabK [] g ds K, memK := fun g dst ds m K => tabMK [] g dst ds m K, meth := tabM [], keep := fun _ => [], keepX := fun _ => [], loopT := fun _ _ _ _ => none, jumps := 9 }
theorem s_nodeOf_ok (N : Nat) (x0 : Int) (x1 : Int) (x2 : List V) : bodyK (cx_nodeOf N) Try.f99 [.agg [.v (.int .i64 x0) .no, .v (.int .i64 x1) .no, .v (.sl 46 x2) .no]] [] r_nodeOf = s_nodeOf N x0 x1 x2 := by
  kernel_rfl
theorem go_nodeOf : Goes Try.prog 99 := goes_of Try.func99 (by kernel_rfl) (c := bodyOf Try.f99) (by kernel_rfl)
theorem eo_nodeOf (s : Int → Int → List V → Option (Int × Int × Int)) (hs : ∀ (x0 : Int) (x1 : Int) (x2 : List V) (r0 : Int) (r1 : Int) (r2 : Int), s x0 x1 x2 = some (r0, r1, r2) → PureRet Try.prog T 99 [.agg [.v (.int .i64 x0) .no, .v (.int .i64 x1) .no, .v (.sl 46 x2) .no]] [.agg [.v (.int .i64 r0) .no, .v (.int .i64 r1) .no, .v (.int .i64 r2) .no]]) : EntOK Try.prog T ⟨99, e_nodeOf s⟩ := by
  refine ⟨go_nodeOf, fun R ds K r h => ?_, fun R ds K => ?_⟩
  · simp only [e_nodeOf] at h
    split at h
    · obtain ⟨r0, r1, r2, h1, h2⟩ := bnd3_some h
      exact ⟨_, h2, hs _ _ _ _ _ _ h1⟩
    · cases h
  · simp only [e_nodeOf]
    split
    · rw [bnd3_b]; rfl
    · rfl
theorem co_nodeOf (N : Nat) : CxOK Try.prog (cx_nodeOf N) :=
  cxOK_of2 (es := []) (me := []) (ms := []) T_ok trivial trivial trivial rfl (fun _ _ _ _ => rfl) (fun _ _ _ _ _ _ => rfl) rfl
theorem lo_nodeOf (N : Nat) : LoopsOK (cx_nodeOf N) Try.f99.ntmps (bodyOf Try.f99) :=
  loopsOK_of (k := 0) (by kernel_rfl) trivial
theorem p_nodeOf (N : Nat) (x0 : Int) (x1 : Int) (x2 : List V) (r0 : Int) (r1 : Int) (r2 : Int) (h : s_nodeOf N x0 x1 x2 = some (r0, r1, r2)) : PureRet Try.prog T 99 [.agg [.v (.int .i64 x0) .no, .v (.int .i64 x1) .no, .v (.sl 46 x2) .no]] [.agg [.v (.int .i64 r0) .no, .v (.int .i64 r1) .no, .v (.int .i64 r2) .no]] :=
  pure_of (cx := cx_nodeOf N) (by kernel_rfl) (co_nodeOf N) Try.func99 (by kernel_rfl) (by kernel_rfl) (lo_nodeOf N) rfl rfl rfl (rf := r_nodeOf) ((s_nodeOf_ok N x0 x1 x2).trans h) (fun rs' m h => by
    unfold r_nodeOf at h
    split at h
    · cases h; exact ⟨rfl, rfl⟩
    · cases h)
noncomputable def e_asame {R : Type} (s : Int → Int → List V → Int → Int → List V → Option (Bool)) (ds : List D) (K : List D → Option R) : Option R :=
  match ds with
  | [.agg [.v (.int .i64 x0) .no, .v (.int .i64 x1) .no, .v (.sl 46 x2) .no], .agg [.v (.int .i64 x3) .no, .v (.int .i64 x4) .no, .v (.sl 46 x5) .no]] => bnd1 (s x0 x1 x2 x3 x4 x5) fun r0 => K [.v (.bool r0) .no]
  | _ => none
noncomputable def e_EqualFuncC {R : Type} (s : List V → List V → Option (Bool)) (ds : List D) (K : List D → Option R) : Option R :=
  match ds with
  | [.v (.sl 46 x0) .no, .v (.sl 46 x1) .no, .clos 72 []] => bnd1 (s x0 x1) fun r0 => K [.v (.bool r0) .no]
  | _ => none
noncomputable def r_EqualFuncC (rs : List D) (_ : Mem) : Option (Bool) :=
  match rs with
  | [.v (.bool r0) _] => some (r0)
  | _ => none
noncomputable def F_EqualFuncC_4 {R : Type} (N : Nat) (f : Int → Int → List V → Int → Int → List V → Option (Bool)) (vs0 : List V) (vs1 : List V) (n2 : Int) (Lq : Int → Option R) (K0 : Bool → Option R) (K1 : Option R) (n3 : Int) : Option R :=
  br (decide (n3 < n2))
  (br (decide (0 ≤ n3) && decide (n3 < (↑vs1.length : Int)))
    (at? vs1 n3.toNat fun x0 =>
      x0.unAgg fun l1 =>
        unCons l1 fun x2 l3 =>
          V.unInt IntKind.i64 x2 fun n4 =>
            unCons l3 fun x5 l6 =>
              V.unInt IntKind.i64 x5 fun n7 =>
                unCons l6 fun x8 l9 =>
                  V.unSl 46 x8 fun l10 =>
                    unNil l9
                      (br (decide (0 ≤ n3) && decide (n3 < (↑vs0.length : Int)))
                        (at? vs0 n3.toNat fun x11 =>
                          x11.unAgg fun l12 =>
                            unCons l12 fun x13 l14 =>
                              V.unInt IntKind.i64 x13 fun n15 =>
                                unCons l14 fun x16 l17 =>
                                  V.unInt IntKind.i64 x16 fun n18 => unCons l17 fun x19 l20 => V.unSl 46 x19 fun l21 => unNil l20 (bnd1 (f n4 n7 l10 n15 n18 l21) fun b22 => br (!b22) (K0 false) (Lq (IntKind.i64.wrap (n3 + 1)))))
                        none))
    none)
  K1
noncomputable def S_EqualFuncC_4 {R : Type} (N : Nat) (f : Int → Int → List V → Int → Int → List V → Option (Bool)) (vs0 : List V) (vs1 : List V) (n2 : Int) : Nat → Int → (Bool → Option R) → (Option R) → Option R
  | 0, _, _, _ => none
  | t + 1, n3, K0, K1 => F_EqualFuncC_4 N f vs0 vs1 n2 (fun n3 => S_EqualFuncC_4 N f vs0 vs1 n2 t n3 K0 K1) K0 K1 n3
noncomputable def l_EqualFuncC_4 {R : Type} (N : Nat) (f : Int → Int → List V → Int → Int → List V → Option (Bool)) (ds : List D) (m : Mem) (K : Ex → List D → Mem → Option R) : Option R :=
  match ds, m with
  | [(.v (.sl 46 vs0) .no), (.clos 72 []), (.v (.sl 46 vs1) .no), (.v (.int .i64 n2) .no), (.v (.int .i64 n3) .no)], [[]] => S_EqualFuncC_4 N f vs0 vs1 n2 N n3 (fun a0 => K .ret [(.v (.bool a0) .no)] [[]]) (K (.exit 0) [.any] [[]])
  | _, _ => none
noncomputable def s_EqualFuncC (N : Nat) (f : Int → Int → List V → Int → Int → List V → Option (Bool)) (x0 : List V) (x1 : List V) : Option (Bool) :=
  br (!decide ((↑x0.length : Int) = (↑x1.length : Int))) (some false) (S_EqualFuncC_4 N f x1 x0 (↑x0.length : Int) N 0 (fun b0 => some b0) (some true))
noncomputable def cx_EqualFuncC (N : Nat) (f : Int → Int → List V → Int → Int → List V → Option (Bool)) : Cx := { T := T, isPure := tabP [⟨72, e_asame f⟩], pureK := fun g ds K => tabK [⟨72, e_asame f⟩] g ds K, memK := fun g dst ds m K => tabMK [] g dst ds m K, meth := tabM [], keep := fun r => match r with | 4 => [1, 2, 15, 16, 17] | _ => [], keepX := fun r => match r with | 4 => [6] | _ => [], loopT := fun r ds m K => match r with | 4 => l_EqualFuncC_4 N f ds m K | _ => none, jumps := 9 }
theorem F_EqualFuncC_4_ok {R : Type} (N : Nat) (f : Int → Int → List V → Int → Int → List V → Option (Bool)) (vs0 : List V) (vs1 : List V) (n2 : Int) (n3 : Int) (L : List D → Mem → Option R) (K : Ex → List D → Mem → Option R) :
    roundK (fun st K => codeK (cx_EqualFuncC N f) (loopN Try.f100 0) st K) 32 [1, 2, 15, 16, 17] [6] L [(.v (.sl 46 vs0) .no), (.clos 72 []), (.v (.sl 46 vs1) .no), (.v (.int .i64 n2) .no), (.v (.int .i64 n3) .no)] [[]] K = F_EqualFuncC_4 N f vs0 vs1 n2 (fun n3 => L [(.v (.sl 46 vs0) .no), (.clos 72 []), (.v (.sl 46 vs1) .no), (.v (.int .i64 n2) .no), (.v (.int .i64 n3) .no)] [[]]) (fun a0 => K .ret [(.v (.bool a0) .no)] [[]]) (K (.exit 0) [.any] [[]]) n3 := by
  kernel_rfl
theorem S_EqualFuncC_4_ok {R : Type} (N : Nat) (f : Int → Int → List V → Int → Int → List V → Option (Bool)) (vs0 : List V) (vs1 : List V) (n2 : Int) (K : Ex → List D → Mem → Option R) : ∀ (t : Nat) (n3 : Int),
    loopK (fun st K => codeK (cx_EqualFuncC N f) (loopN Try.f100 0) st K) 32 [1, 2, 15, 16, 17] [6] t [(.v (.sl 46 vs0) .no), (.clos 72 []), (.v (.sl 46 vs1) .no), (.v (.int .i64 n2) .no), (.v (.int .i64 n3) .no)] [[]] K = S_EqualFuncC_4 N f vs0 vs1 n2 t n3 (fun a0 => K .ret [(.v (.bool a0) .no)] [[]]) (K (.exit 0) [.any] [[]])
  | 0, n3 => rfl
  | t + 1, n3 => (F_EqualFuncC_4_ok N f vs0 vs1 n2 n3 _ K).trans (congrArg (fun L => F_EqualFuncC_4 N f vs0 vs1 n2 L (fun a0 => K .ret [(.v (.bool a0) .no)] [[]]) (K (.exit 0) [.any] [[]]) n3) (funext fun n3 => S_EqualFuncC_4_ok N f vs0 vs1 n2 K t n3))
theorem s_EqualFuncC_ok (N : Nat) (f : Int → Int → List V → Int → Int → List V → Option (Bool)) (x0 : List V) (x1 : List V) : bodyK (cx_EqualFuncC N f) Try.f100 [.v (.sl 46 x0) .no, .v (.sl 46 x1) .no, .clos 72 []] [] r_EqualFuncC = s_EqualFuncC N f x0 x1 := by
  kernel_rfl
theorem go_asame : Goes Try.prog 72 := goes_of Try.func72 (by kernel_rfl) (c := bodyOf Try.f72) (by kernel_rfl)
theorem eo_asame (s : Int → Int → List V → Int → Int → List V → Option (Bool)) (hs : ∀ (x0 : Int) (x1 : Int) (x2 : List V) (x3 : Int) (x4 : Int) (x5 : List V) (r0 : Bool), s x0 x1 x2 x3 x4 x5 = some r0 → PureRet Try.prog T 72 [.agg [.v (.int .i64 x0) .no, .v (.int .i64 x1) .no, .v (.sl 46 x2) .no], .agg [.v (.int .i64 x3) .no, .v (.int .i64 x4) .no, .v (.sl 46 x5) .no]] [.v (.bool r0) .no]) : EntOK Try.prog T ⟨72, e_asame s⟩ := by
  refine ⟨go_asame, fun R ds K r h => ?_, fun R ds K => ?_⟩
  · simp only [e_asame] at h
    split at h
    · obtain ⟨r0, h1, h2⟩ := bnd1_some h
      exact ⟨_, h2, hs _ _ _ _ _ _ _ h1⟩
    · cases h
  · simp only [e_asame]
    split
    · rw [bnd1_b]; rfl
    · rfl
theorem go_EqualFuncC : Goes Try.prog 100 := goes_of Try.func100 (by kernel_rfl) (c := bodyOf Try.f100) (by kernel_rfl)
theorem eo_EqualFuncC (s : List V → List V → Option (Bool)) (hs : ∀ (x0 : List V) (x1 : List V) (r0 : Bool), s x0 x1 = some r0 → PureRet Try.prog T 100 [.v (.sl 46 x0) .no, .v (.sl 46 x1) .no, .clos 72 []] [.v (.bool r0) .no]) : EntOK Try.prog T ⟨100, e_EqualFuncC s⟩ := by
  refine ⟨go_EqualFuncC, fun R ds K r h => ?_, fun R ds K => ?_⟩
  · simp only [e_EqualFuncC] at h
    split at h
    · obtain ⟨r0, h1, h2⟩ := bnd1_some h
      exact ⟨_, h2, hs _ _ _ h1⟩
    · cases h
  · simp only [e_EqualFuncC]
    split
    · rw [bnd1_b]; rfl
    · rfl
theorem co_EqualFuncC (N : Nat) (f : Int → Int → List V → Int → Int → List V → Option (Bool)) (hf : ∀ (x0 : Int) (x1 : Int) (x2 : List V) (x3 : Int) (x4 : Int) (x5 : List V) (r0 : Bool), f x0 x1 x2 x3 x4 x5 = some r0 → PureRet Try.prog T 72 [.agg [.v (.int .i64 x0) .no, .v (.int .i64 x1) .no, .v (.sl 46 x2) .no], .agg [.v (.int .i64 x3) .no, .v (.int .i64 x4) .no, .v (.sl 46 x5) .no]] [.v (.bool r0) .no]) : CxOK Try.prog (cx_EqualFuncC N f) :=
  cxOK_of2 (es := [⟨72, e_asame f⟩]) (me := []) (ms := []) T_ok ⟨eo_asame f hf, trivial⟩ trivial trivial rfl (fun _ _ _ _ => rfl) (fun _ _ _ _ _ _ => rfl) rfl
theorem lk_EqualFuncC_4 (N : Nat) (f : Int → Int → List V → Int → Int → List V → Option (Bool)) : LoopOK (cx_EqualFuncC N f) 32 (loopN Try.f100 0) := by
  refine loopOK_of (rid := 4) (by kernel_rfl) rfl rfl fun R ds m K r h => ?_
  have h : l_EqualFuncC_4 N f ds m K = some r := h
  unfold l_EqualFuncC_4 at h
  split at h
  · exact ⟨N, Eq.trans (S_EqualFuncC_4_ok ..) h⟩
  · cases h
theorem lo_EqualFuncC (N : Nat) (f : Int → Int → List V → Int → Int → List V → Option (Bool)) : LoopsOK (cx_EqualFuncC N f) Try.f100.ntmps (bodyOf Try.f100) :=
  loopsOK_of (k := 1) (by kernel_rfl) ⟨trivial, lk_EqualFuncC_4 N f⟩
theorem p_EqualFuncC (N : Nat) (f : Int → Int → List V → Int → Int → List V → Option (Bool)) (hf : ∀ (x0 : Int) (x1 : Int) (x2 : List V) (x3 : Int) (x4 : Int) (x5 : List V) (r0 : Bool), f x0 x1 x2 x3 x4 x5 = some r0 → PureRet Try.prog T 72 [.agg [.v (.int .i64 x0) .no, .v (.int .i64 x1) .no, .v (.sl 46 x2) .no], .agg [.v (.int .i64 x3) .no, .v (.int .i64 x4) .no, .v (.sl 46 x5) .no]] [.v (.bool r0) .no]) (x0 : List V) (x1 : List V) (r0 : Bool) (h : s_EqualFuncC N f x0 x1 = some r0) : PureRet Try.prog T 100 [.v (.sl 46 x0) .no, .v (.sl 46 x1) .no, .clos 72 []] [.v (.bool r0) .no] :=
  pure_of (cx := cx_EqualFuncC N f) (by kernel_rfl) (co_EqualFuncC N f hf) Try.func100 (by kernel_rfl) (by kernel_rfl) (lo_EqualFuncC N f) rfl rfl rfl (rf := r_EqualFuncC) ((s_EqualFuncC_ok N f x0 x1).trans h) (fun rs' m h => by
    unfold r_EqualFuncC at h
    split at h
    · cases h; exact ⟨rfl, rfl⟩
    · cases h)
noncomputable def r_asame (rs : List D) (_ : Mem) : Option (Bool) :=
  match rs with
  | [.v (.bool r0) _] => some (r0)
  | _ => none
noncomputable def B_asame (N : Nat) (f : Int → Int → List V → Int → Int → List V → Option (Bool)) (x0 : Int) (x1 : Int) (x2 : List V) (x3 : Int) (x4 : Int) (x5 : List V) : Option (Bool) :=
  bnd3 (s_nodeOf N x0 x1 x2) fun n0 n1 n2 => bnd3 (s_nodeOf N x3 x4 x5) fun n3 n4 n5 => br (decide (n0 = n3) && (decide (n1 = n4) && (decide (n2 = n5) && true))) (bnd1 (s_EqualFuncC N f x2 x5) fun b6 => some b6) (some false)
noncomputable def s_asame (N : Nat) : Nat → Int → Int → List V → Int → Int → List V → Option (Bool)
  | 0, _, _, _, _, _, _ => none
  | n + 1, x0, x1, x2, x3, x4, x5 => B_asame N (s_asame N n) x0 x1 x2 x3 x4 x5
noncomputable def cx_asame (N : Nat) (f : Int → Int → List V → Int → Int → List V → Option (Bool)) : Cx := { T := T, isPure := tabP [⟨72, e_asame f⟩, ⟨100, e_EqualFuncC (s_EqualFuncC N f)⟩, ⟨99, e_nodeOf (s_nodeOf N)⟩], pureK := fun g ds K => tabK [⟨72, e_asame f⟩, ⟨100, e_EqualFuncC (s_EqualFuncC N f)⟩, ⟨99, e_nodeOf (s_nodeOf N)⟩] g ds K, memK := fun g dst ds m K => tabMK [] g dst ds m K, meth := tabM [], keep := fun _ => [], keepX := fun _ => [], loopT := fun _ _ _ _ => none, jumps := 9 }
theorem B_asame_ok (N : Nat) (f : Int → Int → List V → Int → Int → List V → Option (Bool)) (x0 : Int) (x1 : Int) (x2 : List V) (x3 : Int) (x4 : Int) (x5 : List V) : bodyK (cx_asame N f) Try.f72 [.agg [.v (.int .i64 x0) .no, .v (.int .i64 x1) .no, .v (.sl 46 x2) .no], .agg [.v (.int .i64 x3) .no, .v (.int .i64 x4) .no, .v (.sl 46 x5) .no]] [] r_asame = B_asame N f x0 x1 x2 x3 x4 x5 := by
  kernel_rfl
theorem co_asame (N : Nat) (f : Int → Int → List V → Int → Int → List V → Option (Bool)) (hf : ∀ (x0 : Int) (x1 : Int) (x2 : List V) (x3 : Int) (x4 : Int) (x5 : List V) (r0 : Bool), f x0 x1 x2 x3 x4 x5 = some r0 → PureRet Try.prog T 72 [.agg [.v (.int .i64 x0) .no, .v (.int .i64 x1) .no, .v (.sl 46 x2) .no], .agg [.v (.int .i64 x3) .no, .v (.int .i64 x4) .no, .v (.sl 46 x5) .no]] [.v (.bool r0) .no]) : CxOK Try.prog (cx_asame N f) :=
  cxOK_of2 (es := [⟨72, e_asame f⟩, ⟨100, e_EqualFuncC (s_EqualFuncC N f)⟩, ⟨99, e_nodeOf (s_nodeOf N)⟩]) (me := []) (ms := []) T_ok ⟨eo_asame f hf, eo_EqualFuncC _ (p_EqualFuncC N f hf), eo_nodeOf _ (p_nodeOf N), trivial⟩ trivial trivial rfl (fun _ _ _ _ => rfl) (fun _ _ _ _ _ _ => rfl) rfl
theorem lo_asame (N : Nat) (f : Int → Int → List V → Int → Int → List V → Option (Bool)) : LoopsOK (cx_asame N f) Try.f72.ntmps (bodyOf Try.f72) :=
  loopsOK_of (k := 0) (by kernel_rfl) trivial
theorem p_asame (N : Nat) : ∀ (M : Nat) (x0 : Int) (x1 : Int) (x2 : List V) (x3 : Int) (x4 : Int) (x5 : List V) (r0 : Bool), s_asame N M x0 x1 x2 x3 x4 x5 = some r0 → PureRet Try.prog T 72 [.agg [.v (.int .i64 x0) .no, .v (.int .i64 x1) .no, .v (.sl 46 x2) .no], .agg [.v (.int .i64 x3) .no, .v (.int .i64 x4) .no, .v (.sl 46 x5) .no]] [.v (.bool r0) .no]
  | 0, _, _, _, _, _, _, _, h => by cases h
  | M + 1, x0, x1, x2, x3, x4, x5, r0, h => pure_of (cx := cx_asame N (s_asame N M)) (by kernel_rfl) (co_asame N (s_asame N M) (p_asame N M)) Try.func72 (by kernel_rfl) (by kernel_rfl) (lo_asame N (s_asame N M)) rfl rfl rfl (rf := r_asame) ((B_asame_ok N (s_asame N M) x0 x1 x2 x3 x4 x5).trans h) (fun rs' m h => by
    unfold r_asame at h
    split at h
    · cases h; exact ⟨rfl, rfl⟩
    · cases h)
noncomputable def e_aSame1 {R : Type} (s : Int → Int → Int → List V → Int → Int → Int → List V → Option (Bool)) (ds : List D) (K : List D → Option R) : Option R :=
  match ds with
  | [.agg [.v (.int .i64 x0) .no, .v (.int .i64 x1) .no, .v (.int .i64 x2) .no, .v (.sl 46 x3) .no], .agg [.v (.int .i64 x4) .no, .v (.int .i64 x5) .no, .v (.int .i64 x6) .no, .v (.sl 46 x7) .no]] => bnd1 (s x0 x1 x2 x3 x4 x5 x6 x7) fun r0 => K [.v (.bool r0) .no]
  | _ => none
noncomputable def r_aSame1 (rs : List D) (_ : Mem) : Option (Bool) :=
  match rs with
  | [.v (.bool r0) _] => some (r0)
  | _ => none
noncomputable def s_aSame1 (N : Nat) (x0 : Int) (x1 : Int) (x2 : Int) (x3 : List V) (x4 : Int) (x5 : Int) (x6 : Int) (x7 : List V) : Option (Bool) :=
  br (decide (x0 = x4)) (bnd1 (s_asame N N x1 x2 x3 x5 x6 x7) fun b0 => some b0) (some false)
noncomputable def cx_aSame1 (N : Nat) : Cx := { T := T, isPure := tabP [⟨72, e_asame (s_asame N N)⟩], pureK := fun g ds K => tabK [⟨72, e_asame (s_asame N N)⟩] g ds K, memK := fun g dst ds m K => tabMK [] g dst ds m K, meth := tabM [], keep := fun _ => [], keepX := fun _ => [], loopT := fun _ _ _ _ => none, jumps := 9 }
theorem s_aSame1_ok (N : Nat) (x0 : Int) (x1 : Int) (x2 : Int) (x3 : List V) (x4 : Int) (x5 : Int) (x6 : Int) (x7 : List V) : bodyK (cx_aSame1 N) Try.f71 [.agg [.v (.int .i64 x0) .no, .v (.int .i64 x1) .no, .v (.int .i64 x2) .no, .v (.sl 46 x3) .no], .agg [.v (.int .i64 x4) .no, .v (.int .i64 x5) .no, .v (.int .i64 x6) .no, .v (.sl 46 x7) .no]] [] r_aSame1 = s_aSame1 N x0 x1 x2 x3 x4 x5 x6 x7 := by
  kernel_rfl
theorem go_aSame1 : Goes Try.prog 71 := goes_of Try.func71 (by kernel_rfl) (c := bodyOf Try.f71) (by kernel_rfl)
theorem eo_aSame1 (s : Int → Int → Int → List V → Int → Int → Int → List V → Option (Bool)) (hs : ∀ (x0 : Int) (x1 : Int) (x2 : Int) (x3 : List V) (x4 : Int) (x5 : Int) (x6 : Int) (x7 : List V) (r0 : Bool), s x0 x1 x2 x3 x4 x5 x6 x7 = some r0 → PureRet Try.prog T 71 [.agg [.v (.int .i64 x0) .no, .v (.int .i64 x1) .no, .v (.int .i64 x2) .no, .v (.sl 46 x3) .no], .agg [.v (.int .i64 x4) .no, .v (.int .i64 x5) .no, .v (.int .i64 x6) .no, .v (.sl 46 x7) .no]] [.v (.bool r0) .no]) : EntOK Try.prog T ⟨71, e_aSame1 s⟩ := by
  refine ⟨go_aSame1, fun R ds K r h => ?_, fun R ds K => ?_⟩
  · simp only [e_aSame1] at h
    split at h
    · obtain ⟨r0, h1, h2⟩ := bnd1_some h
      exact ⟨_, h2, hs _ _ _ _ _ _ _ _ _ h1⟩
    · cases h
  · simp only [e_aSame1]
    split
    · rw [bnd1_b]; rfl
    · rfl
theorem co_aSame1 (N : Nat) : CxOK Try.prog (cx_aSame1 N) :=
  cxOK_of2 (es := [⟨72, e_asame (s_asame N N)⟩]) (me := []) (ms := []) T_ok ⟨eo_asame _ (p_asame N N), trivial⟩ trivial trivial rfl (fun _ _ _ _ => rfl) (fun _ _ _ _ _ _ => rfl) rfl
theorem lo_aSame1 (N : Nat) : LoopsOK (cx_aSame1 N) Try.f71.ntmps (bodyOf Try.f71) :=
  loopsOK_of (k := 0) (by kernel_rfl) trivial
theorem p_aSame1 (N : Nat) (x0 : Int) (x1 : Int) (x2 : Int) (x3 : List V) (x4 : Int) (x5 : Int) (x6 : Int) (x7 : List V) (r0 : Bool) (h : s_aSame1 N x0 x1 x2 x3 x4 x5 x6 x7 = some r0) : PureRet Try.prog T 71 [.agg [.v (.int .i64 x0) .no, .v (.int .i64 x1) .no, .v (.int .i64 x2) .no, .v (.sl 46 x3) .no], .agg [.v (.int .i64 x4) .no, .v (.int .i64 x5) .no, .v (.int .i64 x6) .no, .v (.sl 46 x7) .no]] [.v (.bool r0) .no] :=
  pure_of (cx := cx_aSame1 N) (by kernel_rfl) (co_aSame1 N) Try.func71 (by kernel_rfl) (by kernel_rfl) (lo_aSame1 N) rfl rfl rfl (rf := r_aSame1) ((s_aSame1_ok N x0 x1 x2 x3 x4 x5 x6 x7).trans h) (fun rs' m h => by
    unfold r_aSame1 at h
    split at h
    · cases h; exact ⟨rfl, rfl⟩
    · cases h)
noncomputable def e_EqualFuncR {R : Type} (s : List V → List V → Option (Bool)) (ds : List D) (K : List D → Option R) : Option R :=
  match ds with
  | [.v (.sl 48 x0) .no, .v (.sl 48 x1) .no, .clos 71 []] => bnd1 (s x0 x1) fun r0 => K [.v (.bool r0) .no]
  | _ => none
noncomputable def r_EqualFuncR (rs : List D) (_ : Mem) : Option (Bool) :=
  match rs with
  | [.v (.bool r0) _] => some (r0)
  | _ => none
noncomputable def F_EqualFuncR_4 {R : Type} (N : Nat) (vs0 : List V) (vs1 : List V) (n2 : Int) (Lq : Int → Option R) (K0 : Bool → Option R) (K1 : Option R) (n3 : Int) : Option R :=
  br (decide (n3 < n2))
  (br (decide (0 ≤ n3) && decide (n3 < (↑vs1.length : Int)))
    (at? vs1 n3.toNat fun x0 =>
      x0.unAgg fun l1 =>
        unCons l1 fun x2 l3 =>
          V.unInt IntKind.i64 x2 fun n4 =>
            unCons l3 fun x5 l6 =>
              V.unInt IntKind.i64 x5 fun n7 =>
                unCons l6 fun x8 l9 =>
                  V.unInt IntKind.i64 x8 fun n10 =>
                    unCons l9 fun x11 l12 =>
                      V.unSl 46 x11 fun l13 =>
                        unNil l12
                          (br (decide (0 ≤ n3) && decide (n3 < (↑vs0.length : Int)))
                            (at? vs0 n3.toNat fun x14 =>
                              x14.unAgg fun l15 =>
                                unCons l15 fun x16 l17 =>
                                  V.unInt IntKind.i64 x16 fun n18 =>
                                    unCons l17 fun x19 l20 =>
                                      V.unInt IntKind.i64 x19 fun n21 =>
                                        unCons l20 fun x22 l23 =>
                                          V.unInt IntKind.i64 x22 fun n24 =>
                                            unCons l23 fun x25 l26 => V.unSl 46 x25 fun l27 => unNil l26 (bnd1 (s_aSame1 N n4 n7 n10 l13 n18 n21 n24 l27) fun b28 => br (!b28) (K0 false) (Lq (IntKind.i64.wrap (n3 + 1)))))
                            none))
    none)
  K1
noncomputable def S_EqualFuncR_4 {R : Type} (N : Nat) (vs0 : List V) (vs1 : List V) (n2 : Int) : Nat → Int → (Bool → Option R) → (Option R) → Option R
  | 0, _, _, _ => none
  | t + 1, n3, K0, K1 => F_EqualFuncR_4 N vs0 vs1 n2 (fun n3 => S_EqualFuncR_4 N vs0 vs1 n2 t n3 K0 K1) K0 K1 n3
noncomputable def l_EqualFuncR_4 {R : Type} (N : Nat) (ds : List D) (m : Mem) (K : Ex → List D → Mem → Option R) : Option R :=
  match ds, m with
  | [(.v (.sl 48 vs0) .no), (.clos 71 []), (.v (.sl 48 vs1) .no), (.v (.int .i64 n2) .no), (.v (.int .i64 n3) .no)], [[]] => S_EqualFuncR_4 N vs0 vs1 n2 N n3 (fun a0 => K .ret [(.v (.bool a0) .no)] [[]]) (K (.exit 0) [.any] [[]])
  | _, _ => none
noncomputable def s_EqualFuncR (N : Nat) (x0 : List V) (x1 : List V) : Option (Bool) :=
  br (!decide ((↑x0.length : Int) = (↑x1.length : Int))) (some false) (S_EqualFuncR_4 N x1 x0 (↑x0.length : Int) N 0 (fun b0 => some b0) (some true))
noncomputable def cx_EqualFuncR (N : Nat) : Cx := { T := T, isPure := tabP [⟨71, e_aSame1 (s_aSame1 N)⟩], pureK := fun g ds K => tabK [⟨71, e_aSame1 (s_aSame1 N)⟩] g ds K, memK := fun g dst ds m K => tabMK [] g dst ds m K, meth := tabM [], keep := fun r => match r with | 4 => [1, 2, 15, 16, 17] | _ => [], keepX := fun r => match r with | 4 => [6] | _ => [], loopT := fun r ds m K => match r with | 4 => l_EqualFuncR_4 N ds m K | _ => none, jumps := 9 }
theorem F_EqualFuncR_4_ok {R : Type} (N : Nat) (vs0 : List V) (vs1 : List V) (n2 : Int) (n3 : Int) (L : List D → Mem → Option R) (K : Ex → List D → Mem → Option R) :
    roundK (fun st K => codeK (cx_EqualFuncR N) (loopN Try.f70 0) st K) 32 [1, 2, 15, 16, 17] [6] L [(.v (.sl 48 vs0) .no), (.clos 71 []), (.v (.sl 48 vs1) .no), (.v (.int .i64 n2) .no), (.v (.int .i64 n3) .no)] [[]] K = F_EqualFuncR_4 N vs0 vs1 n2 (fun n3 => L [(.v (.sl 48 vs0) .no), (.clos 71 []), (.v (.sl 48 vs1) .no), (.v (.int .i64 n2) .no), (.v (.int .i64 n3) .no)] [[]]) (fun a0 => K .ret [(.v (.bool a0) .no)] [[]]) (K (.exit 0) [.any] [[]]) n3 := by
  kernel_rfl
theorem S_EqualFuncR_4_ok {R : Type} (N : Nat) (vs0 : List V) (vs1 : List V) (n2 : Int) (K : Ex → List D → Mem → Option R) : ∀ (t : Nat) (n3 : Int),
    loopK (fun st K => codeK (cx_EqualFuncR N) (loopN Try.f70 0) st K) 32 [1, 2, 15, 16, 17] [6] t [(.v (.sl 48 vs0) .no), (.clos 71 []), (.v (.sl 48 vs1) .no), (.v (.int .i64 n2) .no), (.v (.int .i64 n3) .no)] [[]] K = S_EqualFuncR_4 N vs0 vs1 n2 t n3 (fun a0 => K .ret [(.v (.bool a0) .no)] [[]]) (K (.exit 0) [.any] [[]])
  | 0, n3 => rfl
  | t + 1, n3 => (F_EqualFuncR_4_ok N vs0 vs1 n2 n3 _ K).trans (congrArg (fun L => F_EqualFuncR_4 N vs0 vs1 n2 L (fun a0 => K .ret [(.v (.bool a0) .no)] [[]]) (K (.exit 0) [.any] [[]]) n3) (funext fun n3 => S_EqualFuncR_4_ok N vs0 vs1 n2 K t n3))
theorem s_EqualFuncR_ok (N : Nat) (x0 : List V) (x1 : List V) : bodyK (cx_EqualFuncR N) Try.f70 [.v (.sl 48 x0) .no, .v (.sl 48 x1) .no, .clos 71 []] [] r_EqualFuncR = s_EqualFuncR N x0 x1 := by
  kernel_rfl
theorem go_EqualFuncR : Goes Try.prog 70 := goes_of Try.func70 (by kernel_rfl) (c := bodyOf Try.f70) (by kernel_rfl)
theorem eo_EqualFuncR (s : List V → List V → Option (Bool)) (hs : ∀ (x0 : List V) (x1 : List V) (r0 : Bool), s x0 x1 = some r0 → PureRet Try.prog T 70 [.v (.sl 48 x0) .no, .v (.sl 48 x1) .no, .clos 71 []] [.v (.bool r0) .no]) : EntOK Try.prog T ⟨70, e_EqualFuncR s⟩ := by
  refine ⟨go_EqualFuncR, fun R ds K r h => ?_, fun R ds K => ?_⟩
  · simp only [e_EqualFuncR] at h
    split at h
    · obtain ⟨r0, h1, h2⟩ := bnd1_some h
      exact ⟨_, h2, hs _ _ _ h1⟩
    · cases h
  · simp only [e_EqualFuncR]
    split
    · rw [bnd1_b]; rfl
    · rfl
theorem co_EqualFuncR (N : Nat) : CxOK Try.prog (cx_EqualFuncR N) :=
  cxOK_of2 (es := [⟨71, e_aSame1 (s_aSame1 N)⟩]) (me := []) (ms := []) T_ok ⟨eo_aSame1 _ (p_aSame1 N), trivial⟩ trivial trivial rfl (fun _ _ _ _ => rfl) (fun _ _ _ _ _ _ => rfl) rfl
theorem lk_EqualFuncR_4 (N : Nat) : LoopOK (cx_EqualFuncR N) 32 (loopN Try.f70 0) := by
  refine loopOK_of (rid := 4) (by kernel_rfl) rfl rfl fun R ds m K r h => ?_
  have h : l_EqualFuncR_4 N ds m K = some r := h
  unfold l_EqualFuncR_4 at h
  split at h
  · exact ⟨N, Eq.trans (S_EqualFuncR_4_ok ..) h⟩
  · cases h
theorem lo_EqualFuncR (N : Nat) : LoopsOK (cx_EqualFuncR N) Try.f70.ntmps (bodyOf Try.f70) :=
  loopsOK_of (k := 1) (by kernel_rfl) ⟨trivial, lk_EqualFuncR_4 N⟩
theorem p_EqualFuncR (N : Nat) (x0 : List V) (x1 : List V) (r0 : Bool) (h : s_EqualFuncR N x0 x1 = some r0) : PureRet Try.prog T 70 [.v (.sl 48 x0) .no, .v (.sl 48 x1) .no, .clos 71 []] [.v (.bool r0) .no] :=
  pure_of (cx := cx_EqualFuncR N) (by kernel_rfl) (co_EqualFuncR N) Try.func70 (by kernel_rfl) (by kernel_rfl) (lo_EqualFuncR N) rfl rfl rfl (rf := r_EqualFuncR) ((s_EqualFuncR_ok N x0 x1).trans h) (fun rs' m h => by
    unfold r_EqualFuncR at h
    split at h
    · cases h; exact ⟨rfl, rfl⟩
    · cases h)
noncomputable def e_aSame {R : Type} (s : List V → List V → Option (Bool)) (ds : List D) (K : List D → Option R) : Option R :=
  match ds with
  | [.v (.sl 48 x0) .no, .v (.sl 48 x1) .no] => bnd1 (s x0 x1) fun r0 => K [.v (.bool r0) .no]
  | _ => none
noncomputable def r_aSame (rs : List D) (_ : Mem) : Option (Bool) :=
  match rs with
  | [.v (.bool r0) _] => some (r0)
  | _ => none
noncomputable def s_aSame (N : Nat) (x0 : List V) (x1 : List V) : Option (Bool) :=
  bnd1 (s_EqualFuncR N x0 x1) fun b0 => some b0
noncomputable def cx_aSame (N : Nat) : Cx := { T := T, isPure := tabP [⟨70, e_EqualFuncR (s_EqualFuncR N)⟩, ⟨71, e_aSame1 (s_aSame1 N)⟩], pureK := fun g ds K => tabK [⟨70, e_EqualFuncR (s_EqualFuncR N)⟩, ⟨71, e_aSame1 (s_aSame1 N)⟩] g ds K, memK := fun g dst ds m K => tabMK [] g dst ds m K, meth := tabM [], keep := fun _ => [], keepX := fun _ => [], loopT := fun _ _ _ _ => none, jumps := 9 }
theorem s_aSame_ok (N : Nat) (x0 : List V) (x1 : List V) : bodyK (cx_aSame N) Try.f47 [.v (.sl 48 x0) .no, .v (.sl 48 x1) .no] [] r_aSame = s_aSame N x0 x1 := by
  kernel_rfl
theorem go_aSame : Goes Try.prog 47 := goes_of Try.func47 (by kernel_rfl) (c := bodyOf Try.f47) (by kernel_rfl)
theorem eo_aSame (s : List V → List V → Option (Bool)) (hs : ∀ (x0 : List V) (x1 : List V) (r0 : Bool), s x0 x1 = some r0 → PureRet Try.prog T 47 [.v (.sl 48 x0) .no, .v (.sl 48 x1) .no] [.v (.bool r0) .no]) : EntOK Try.prog T ⟨47, e_aSame s⟩ := by
  refine ⟨go_aSame, fun R ds K r h => ?_, fun R ds K => ?_⟩
  · simp only [e_aSame] at h
    split at h
    · obtain ⟨r0, h1, h2⟩ := bnd1_some h
      exact ⟨_, h2, hs _ _ _ h1⟩
    · cases h
  · simp only [e_aSame]
    split
    · rw [bnd1_b]; rfl
    · rfl
theorem co_aSame (N : Nat) : CxOK Try.prog (cx_aSame N) :=
  cxOK_of2 (es := [⟨70, e_EqualFuncR (s_EqualFuncR N)⟩, ⟨71, e_aSame1 (s_aSame1 N)⟩]) (me := []) (ms := []) T_ok ⟨eo_EqualFuncR _ (p_EqualFuncR N), eo_aSame1 _ (p_aSame1 N), trivial⟩ trivial trivial rfl (fun _ _ _ _ => rfl) (fun _ _ _ _ _ _ => rfl) rfl
theorem lo_aSame (N : Nat) : LoopsOK (cx_aSame N) Try.f47.ntmps (bodyOf Try.f47) :=
  loopsOK_of (k := 0) (by kernel_rfl) trivial
theorem p_aSame (N : Nat) (x0 : List V) (x1 : List V) (r0 : Bool) (h : s_aSame N x0 x1 = some r0) : PureRet Try.prog T 47 [.v (.sl 48 x0) .no, .v (.sl 48 x1) .no] [.v (.bool r0) .no] :=
  pure_of (cx := cx_aSame N) (by kernel_rfl) (co_aSame N) Try.func47 (by kernel_rfl) (by kernel_rfl) (lo_aSame N) rfl rfl rfl (rf := r_aSame) ((s_aSame_ok N x0 x1).trans h) (fun rs' m h => by
    unfold r_aSame at h
    split at h
    · cases h; exact ⟨rfl, rfl⟩
    · cases h)
noncomputable def e_qhas {R : Type} (s : Int → Int → Option (Bool)) (ds : List D) (K : List D → Option R) : Option R :=
  match ds with
  | [.v (.int .i64 x0) .no, .v (.int .i64 x1) .no] => bnd1 (s x0 x1) fun r0 => K [.v (.bool r0) .no]
  | _ => none
noncomputable def r_qhas (rs : List D) (_ : Mem) : Option (Bool) :=
  match rs with
  | [.v (.bool r0) _] => some (r0)
  | _ => none
noncomputable def s_qhas (N : Nat) (x0 : Int) (x1 : Int) : Option (Bool) :=
  some (decide (bitsI BinOp.and IntKind.i64 x0 x1 = x1))
noncomputable def cx_qhas (N : Nat) : Cx := { T := T, isPure := tabP [], pureK := fun g ds K => tabK [] g ds K, memK := fun g dst ds m K => tabMK [] g dst ds m K, meth := tabM [], keep := fun _ => [], keepX := fun _ => [], loopT := fun _ _ _ _ => none, jumps := 9 }
theorem s_qhas_ok (N : Nat) (x0 : Int) (x1 : Int) : bodyK (cx_qhas N) Try.f109 [.v (.int .i64 x0) .no, .v (.int .i64 x1) .no] [] r_qhas = s_qhas N x0 x1 := by
  kernel_rfl
theorem go_qhas : Goes Try.prog 109 := goes_of Try.func109 (by kernel_rfl) (c := bodyOf Try.f109) (by kernel_rfl)
theorem eo_qhas (s : Int → Int → Option (Bool)) (hs : ∀ (x0 : Int) (x1 : Int) (r0 : Bool), s x0 x1 = some r0 → PureRet Try.prog T 109 [.v (.int .i64 x0) .no, .v (.int .i64 x1) .no] [.v (.bool r0) .no]) : EntOK Try.prog T ⟨109, e_qhas s⟩ := by
  refine ⟨go_qhas, fun R ds K r h => ?_, fun R ds K => ?_⟩
  · simp only [e_qhas] at h
    split at h
    · obtain ⟨r0, h1, h2⟩ := bnd1_some h
      exact ⟨_, h2, hs _ _ _ h1⟩
    · cases h
  · simp only [e_qhas]
    split
    · rw [bnd1_b]; rfl
    · rfl
theorem co_qhas (N : Nat) : CxOK Try.prog (cx_qhas N) :=
  cxOK_of2 (es := []) (me := []) (ms := []) T_ok trivial trivial trivial rfl (fun _ _ _ _ => rfl) (fun _ _ _ _ _ _ => rfl) rfl
theorem lo_qhas (N : Nat) : LoopsOK (cx_qhas N) Try.f109.ntmps (bodyOf Try.f109) :=
  loopsOK_of (k := 0) (by kernel_rfl) trivial
theorem p_qhas (N : Nat) (x0 : Int) (x1 : Int) (r0 : Bool) (h : s_qhas N x0 x1 = some r0) : PureRet Try.prog T 109 [.v (.int .i64 x0) .no, .v (.int .i64 x1) .no] [.v (.bool r0) .no] :=
  pure_of (cx := cx_qhas N) (by kernel_rfl) (co_qhas N) Try.func109 (by kernel_rfl) (by kernel_rfl) (lo_qhas N) rfl rfl rfl (rf := r_qhas) ((s_qhas_ok N x0 x1).trans h) (fun rs' m h => by
    unfold r_qhas at h
    split at h
    · cases h; exact ⟨rfl, rfl⟩
    · cases h)
noncomputable def e_qvalid {R : Type} (s : Int → Int → List V → Option (Bool)) (ds : List D) (K : List D → Option R) : Option R :=
  match ds with
  | [.agg [.v (.int .i64 x0) .no, .v (.int .i64 x1) .no, .v (.sl 46 x2) .no]] => bnd1 (s x0 x1 x2) fun r0 => K [.v (.bool r0) .no]
  | _ => none
noncomputable def r_qvalid (rs : List D) (_ : Mem) : Option (Bool) :=
  match rs with
  | [.v (.bool r0) _] => some (r0)
  | _ => none
noncomputable def F_qvalid_18 {R : Type} (N : Nat) (f : Int → Int → List V → Option (Bool)) (n1 : Int) (n2 : Int) (vs3 : List V) (Lq : Int → Option R) (K0 : Bool → Option R) (K1 : Option R) (n0 : Int) : Option R :=
  br (decide (n0 < (↑vs3.length : Int)))
  (br (decide (0 ≤ n0) && decide (n0 < (↑vs3.length : Int)))
    (at? vs3 n0.toNat fun x0 =>
      x0.unAgg fun l1 =>
        unCons l1 fun x2 l3 =>
          V.unInt IntKind.i64 x2 fun n4 =>
            unCons l3 fun x5 l6 => V.unInt IntKind.i64 x5 fun n7 => unCons l6 fun x8 l9 => V.unSl 46 x8 fun l10 => unNil l9 (bnd1 (f n4 n7 l10) fun b11 => br (!b11) (K0 false) (Lq (IntKind.i64.wrap (n0 + 1)))))
    none)
  K1
noncomputable def S_qvalid_18 {R : Type} (N : Nat) (f : Int → Int → List V → Option (Bool)) (n1 : Int) (n2 : Int) (vs3 : List V) : Nat → Int → (Bool → Option R) → (Option R) → Option R
  | 0, _, _, _ => none
  | t + 1, n0, K0, K1 => F_qvalid_18 N f n1 n2 vs3 (fun n0 => S_qvalid_18 N f n1 n2 vs3 t n0 K0 K1) K0 K1 n0
noncomputable def l_qvalid_18 {R : Type} (N : Nat) (f : Int → Int → List V → Option (Bool)) (ds : List D) (m : Mem) (K : Ex → List D → Mem → Option R) : Option R :=
  match ds, m with
  | [(.ptr 0 1 0), (.v (.int .i64 n0) .no)], [[(1, ⟨46, [(.v (.int .i64 n1) .no), (.v (.int .i64 n2) .no), (.v (.sl 46 vs3) .no)]⟩)]] => S_qvalid_18 N f n1 n2 vs3 N n0 (fun a0 => K .ret [(.ptr 0 1 0), (.v (.bool a0) .no)] [[(1, ⟨46, [(.v (.int .i64 n1) .no), (.v (.int .i64 n2) .no), (.v (.sl 46 vs3) .no)]⟩)]]) (K (.exit 1) [(.ptr 0 1 0), .any] [[(1, ⟨46, [(.v (.int .i64 n1) .no), (.v (.int .i64 n2) .no), (.v (.sl 46 vs3) .no)]⟩)]])
  | _, _ => none
noncomputable def B_qvalid (N : Nat) (f : Int → Int → List V → Option (Bool)) (x0 : Int) (x1 : Int) (x2 : List V) : Option (Bool) :=
  br (decide (x0 = 0)) (br (decide (x1 = 0)) (some (decide ((↑x2.length : Int) = 0))) (some false))
  (br (decide (x0 = 1)) (br (decide (x1 = 0)) (some (decide ((↑x2.length : Int) = 0))) (some false))
    (br (decide (x0 = 2)) (br (decide (1 ≤ x1)) (br (decide (x1 ≤ 8)) (some (decide ((↑x2.length : Int) = 0))) (some false)) (some false))
      (br (decide (x0 = 3)) (br (decide (1 ≤ x1)) (br (decide (x1 ≤ 8)) (some (decide ((↑x2.length : Int) = 0))) (some false)) (some false))
        (br (decide (x0 = 4)) (br (decide (1 ≤ x1)) (br (decide (x1 ≤ 5)) (some (decide ((↑x2.length : Int) = 0))) (some false)) (some false))
          (br (decide (x0 = 5)) (br (decide (1 ≤ x1)) (bnd1 (s_qhas N 51 x1) fun b0 => br b0 (some (decide ((↑x2.length : Int) = 0))) (some false)) (some false))
            (br (decide (x0 = 6)) (br (!decide (x1 = 0)) (some false) (br (decide ((↑x2.length : Int) = 0)) (some false) (S_qvalid_18 N f x0 x1 x2 N 0 (fun b1 => some b1) (some true))))
              (br (decide (x0 = 7)) (br (!decide (x1 = 0)) (some false) (br (decide ((↑x2.length : Int) = 0)) (some false) (S_qvalid_18 N f x0 x1 x2 N 0 (fun b2 => some b2) (some true)))) (some false))))))))
noncomputable def s_qvalid (N : Nat) : Nat → Int → Int → List V → Option (Bool)
  | 0, _, _, _ => none
  | n + 1, x0, x1, x2 => B_qvalid N (s_qvalid N n) x0 x1 x2
noncomputable def cx_qvalid (N : Nat) (f : Int → Int → List V → Option (Bool)) : Cx := { T := T, isPure := tabP [⟨83, e_qvalid f⟩, ⟨109, e_qhas (s_qhas N)⟩], pureK := fun g ds K => tabK [⟨83, e_qvalid f⟩, ⟨109, e_qhas (s_qhas N)⟩] g ds K, memK := fun g dst ds m K => tabMK [] g dst ds m K, meth := tabM [], keep := fun r => match r with | 18 => [1, 3] | _ => [], keepX := fun r => match r with | 18 => [1, 2] | _ => [], loopT := fun r ds m K => match r with | 18 => l_qvalid_18 N f ds m K | _ => none, jumps := 9 }
theorem F_qvalid_18_ok {R : Type} (N : Nat) (f : Int → Int → List V → Option (Bool)) (n1 : Int) (n2 : Int) (vs3 : List V) (n0 : Int) (L : List D → Mem → Option R) (K : Ex → List D → Mem → Option R) :
    roundK (fun st K => codeK (cx_qvalid N f) (loopN Try.f83 0) st K) 108 [1, 3] [1, 2] L [(.ptr 0 1 0), (.v (.int .i64 n0) .no)] [[(1, ⟨46, [(.v (.int .i64 n1) .no), (.v (.int .i64 n2) .no), (.v (.sl 46 vs3) .no)]⟩)]] K = F_qvalid_18 N f n1 n2 vs3 (fun n0 => L [(.ptr 0 1 0), (.v (.int .i64 n0) .no)] [[(1, ⟨46, [(.v (.int .i64 n1) .no), (.v (.int .i64 n2) .no), (.v (.sl 46 vs3) .no)]⟩)]]) (fun a0 => K .ret [(.ptr 0 1 0), (.v (.bool a0) .no)] [[(1, ⟨46, [(.v (.int .i64 n1) .no), (.v (.int .i64 n2) .no), (.v (.sl 46 vs3) .no)]⟩)]]) (K (.exit 1) [(.ptr 0 1 0), .any] [[(1, ⟨46, [(.v (.int .i64 n1) .no), (.v (.int .i64 n2) .no), (.v (.sl 46 vs3) .no)]⟩)]]) n0 := by
  kernel_rfl
theorem S_qvalid_18_ok {R : Type} (N : Nat) (f : Int → Int → List V → Option (Bool)) (n1 : Int) (n2 : Int) (vs3 : List V) (K : Ex → List D → Mem → Option R) : ∀ (t : Nat) (n0 : Int),
    loopK (fun st K => codeK (cx_qvalid N f) (loopN Try.f83 0) st K) 108 [1, 3] [1, 2] t [(.ptr 0 1 0), (.v (.int .i64 n0) .no)] [[(1, ⟨46, [(.v (.int .i64 n1) .no), (.v (.int .i64 n2) .no), (.v (.sl 46 vs3) .no)]⟩)]] K = S_qvalid_18 N f n1 n2 vs3 t n0 (fun a0 => K .ret [(.ptr 0 1 0), (.v (.bool a0) .no)] [[(1, ⟨46, [(.v (.int .i64 n1) .no), (.v (.int .i64 n2) .no), (.v (.sl 46 vs3) .no)]⟩)]]) (K (.exit 1) [(.ptr 0 1 0), .any] [[(1, ⟨46, [(.v (.int .i64 n1) .no), (.v (.int .i64 n2) .no), (.v (.sl 46 vs3) .no)]⟩)]])
  | 0, n0 => rfl
  | t + 1, n0 => (F_qvalid_18_ok N f n1 n2 vs3 n0 _ K).trans (congrArg (fun L => F_qvalid_18 N f n1 n2 vs3 L (fun a0 => K .ret [(.ptr 0 1 0), (.v (.bool a0) .no)] [[(1, ⟨46, [(.v (.int .i64 n1) .no), (.v (.int .i64 n2) .no), (.v (.sl 46 vs3) .no)]⟩)]]) (K (.exit 1) [(.ptr 0 1 0), .any] [[(1, ⟨46, [(.v (.int .i64 n1) .no), (.v (.int .i64 n2) .no), (.v (.sl 46 vs3) .no)]⟩)]]) n0) (funext fun n0 => S_qvalid_18_ok N f n1 n2 vs3 K t n0))
theorem B_qvalid_ok (N : Nat) (f : Int → Int → List V → Option (Bool)) (x0 : Int) (x1 : Int) (x2 : List V) : bodyK (cx_qvalid N f) Try.f83 [.agg [.v (.int .i64 x0) .no, .v (.int .i64 x1) .no, .v (.sl 46 x2) .no]] [] r_qvalid = B_qvalid N f x0 x1 x2 := by
  kernel_rfl
theorem go_qvalid : Goes Try.prog 83 := goes_of Try.func83 (by kernel_rfl) (c := bodyOf Try.f83) (by kernel_rfl)
theorem eo_qvalid (s : Int → Int → List V → Option (Bool)) (hs : ∀ (x0 : Int) (x1 : Int) (x2 : List V) (r0 : Bool), s x0 x1 x2 = some r0 → PureRet Try.prog T 83 [.agg [.v (.int .i64 x0) .no, .v (.int .i64 x1) .no, .v (.sl 46 x2) .no]] [.v (.bool r0) .no]) : EntOK Try.prog T ⟨83, e_qvalid s⟩ := by
  refine ⟨go_qvalid, fun R ds K r h => ?_, fun R ds K => ?_⟩
  · simp only [e_qvalid] at h
    split at h
    · obtain ⟨r0, h1, h2⟩ := bnd1_some h
      exact ⟨_, h2, hs _ _ _ _ h1⟩
    · cases h
  · simp only [e_qvalid]
    split
    · rw [bnd1_b]; rfl
    · rfl
theorem co_qvalid (N : Nat) (f : Int → Int → List V → Option (Bool)) (hf : ∀ (x0 : Int) (x1 : Int) (x2 : List V) (r0 : Bool), f x0 x1 x2 = some r0 → PureRet Try.prog T 83 [.agg [.v (.int .i64 x0) .no, .v (.int .i64 x1) .no, .v (.sl 46 x2) .no]] [.v (.bool r0) .no]) : CxOK Try.prog (cx_qvalid N f) :=
  cxOK_of2 (es := [⟨83, e_qvalid f⟩, ⟨109, e_qhas (s_qhas N)⟩]) (me := []) (ms := []) T_ok ⟨eo_qvalid f hf, eo_qhas _ (p_qhas N), trivial⟩ trivial trivial rfl (fun _ _ _ _ => rfl) (fun _ _ _ _ _ _ => rfl) rfl
theorem lk_qvalid_18 (N : Nat) (f : Int → Int → List V → Option (Bool)) : LoopOK (cx_qvalid N f) 108 (loopN Try.f83 0) := by
  refine loopOK_of (rid := 18) (by kernel_rfl) rfl rfl fun R ds m K r h => ?_
  have h : l_qvalid_18 N f ds m K = some r := h
  unfold l_qvalid_18 at h
  split at h
  · exact ⟨N, Eq.trans (S_qvalid_18_ok ..) h⟩
  · cases h
theorem lo_qvalid (N : Nat) (f : Int → Int → List V → Option (Bool)) : LoopsOK (cx_qvalid N f) Try.f83.ntmps (bodyOf Try.f83) :=
  loopsOK_of (k := 1) (by kernel_rfl) ⟨trivial, lk_qvalid_18 N f⟩
theorem p_qvalid (N : Nat) : ∀ (M : Nat) (x0 : Int) (x1 : Int) (x2 : List V) (r0 : Bool), s_qvalid N M x0 x1 x2 = some r0 → PureRet Try.prog T 83 [.agg [.v (.int .i64 x0) .no, .v (.int .i64 x1) .no, .v (.sl 46 x2) .no]] [.v (.bool r0) .no]
  | 0, _, _, _, _, h => by cases h
  | M + 1, x0, x1, x2, r0, h => pure_of (cx := cx_qvalid N (s_qvalid N M)) (by kernel_rfl) (co_qvalid N (s_qvalid N M) (p_qvalid N M)) Try.func83 (by kernel_rfl) (by kernel_rfl) (lo_qvalid N (s_qvalid N M)) rfl rfl rfl (rf := r_qvalid) ((B_qvalid_ok N (s_qvalid N M) x0 x1 x2).trans h) (fun rs' m h => by
    unfold r_qvalid at h
    split at h
    · cases h; exact ⟨rfl, rfl⟩
    · cases h)
noncomputable def e_qnodes {R : Type} (s : Int → Int → List V → Option (Int)) (ds : List D) (K : List D → Option R) : Option R :=
  match ds with
  | [.agg [.v (.int .i64 x0) .no, .v (.int .i64 x1) .no, .v (.sl 46 x2) .no]] => bnd1 (s x0 x1 x2) fun r0 => K [.v (.int .i64 r0) .no]
  | _ => none
noncomputable def r_qnodes (rs : List D) (_ : Mem) : Option (Int) :=
  match rs with
  | [.v (.int .i64 r0) _] => some (r0)
  | _ => none
noncomputable def F_qnodes_3 {R : Type} (N : Nat) (f : Int → Int → List V → Option (Int)) (n2 : Int) (n3 : Int) (vs4 : List V) (Lq : Int → Int → Option R) (K0 : Int → Option R) (n0 : Int) (n1 : Int) : Option R :=
  br (decide (n1 < (↑vs4.length : Int)))
  (br (decide (0 ≤ n1) && decide (n1 < (↑vs4.length : Int)))
    (at? vs4 n1.toNat fun x0 =>
      x0.unAgg fun l1 =>
        unCons l1 fun x2 l3 =>
          V.unInt IntKind.i64 x2 fun n4 =>
            unCons l3 fun x5 l6 => V.unInt IntKind.i64 x5 fun n7 => unCons l6 fun x8 l9 => V.unSl 46 x8 fun l10 => unNil l9 (bnd1 (f n4 n7 l10) fun n11 => Lq (IntKind.i64.wrap (n0 + n11)) (IntKind.i64.wrap (n1 + 1))))
    none)
  (K0 n0)
noncomputable def S_qnodes_3 {R : Type} (N : Nat) (f : Int → Int → List V → Option (Int)) (n2 : Int) (n3 : Int) (vs4 : List V) : Nat → Int → Int → (Int → Option R) → Option R
  | 0, _, _, _ => none
  | t + 1, n0, n1, K0 => F_qnodes_3 N f n2 n3 vs4 (fun n0 n1 => S_qnodes_3 N f n2 n3 vs4 t n0 n1 K0) K0 n0 n1
noncomputable def l_qnodes_3 {R : Type} (N : Nat) (f : Int → Int → List V → Option (Int)) (ds : List D) (m : Mem) (K : Ex → List D → Mem → Option R) : Option R :=
  match ds, m with
  | [(.ptr 0 1 0), (.v (.int .i64 n0) .no), (.v (.int .i64 n1) .no)], [[(1, ⟨46, [(.v (.int .i64 n2) .no), (.v (.int .i64 n3) .no), (.v (.sl 46 vs4) .no)]⟩)]] => S_qnodes_3 N f n2 n3 vs4 N n0 n1 (fun a0 => K (.exit 0) [(.ptr 0 1 0), (.v (.int .i64 a0) .no)] [[(1, ⟨46, [(.v (.int .i64 n2) .no), (.v (.int .i64 n3) .no), (.v (.sl 46 vs4) .no)]⟩)]])
  | _, _ => none
noncomputable def B_qnodes (N : Nat) (f : Int → Int → List V → Option (Int)) (x0 : Int) (x1 : Int) (x2 : List V) : Option (Int) :=
  S_qnodes_3 N f x0 x1 x2 N 1 0 fun n0 => some n0
noncomputable def s_qnodes (N : Nat) : Nat → Int → Int → List V → Option (Int)
  | 0, _, _, _ => none
  | n + 1, x0, x1, x2 => B_qnodes N (s_qnodes N n) x0 x1 x2
noncomputable def cx_qnodes (N : Nat) (f : Int → Int → List V → Option (Int)) : Cx := { T := T, isPure := tabP [⟨84, e_qnodes f⟩], pureK := fun g ds K => tabK [⟨84, e_qnodes f⟩] g ds K, memK := fun g dst ds m K => tabMK [] g dst ds m K, meth := tabM [], keep := fun r => match r with | 3 => [1, 3, 4] | _ => [], keepX := fun r => match r with | 3 => [1, 3] | _ => [], loopT := fun r ds m K => match r with | 3 => l_qnodes_3 N f ds m K | _ => none, jumps := 9 }
theorem F_qnodes_3_ok {R : Type} (N : Nat) (f : Int → Int → List V → Option (Int)) (n2 : Int) (n3 : Int) (vs4 : List V) (n0 : Int) (n1 : Int) (L : List D → Mem → Option R) (K : Ex → List D → Mem → Option R) :
    roundK (fun st K => codeK (cx_qnodes N f) (loopN Try.f84 0) st K) 21 [1, 3, 4] [1, 3] L [(.ptr 0 1 0), (.v (.int .i64 n0) .no), (.v (.int .i64 n1) .no)] [[(1, ⟨46, [(.v (.int .i64 n2) .no), (.v (.int .i64 n3) .no), (.v (.sl 46 vs4) .no)]⟩)]] K = F_qnodes_3 N f n2 n3 vs4 (fun n0 n1 => L [(.ptr 0 1 0), (.v (.int .i64 n0) .no), (.v (.int .i64 n1) .no)] [[(1, ⟨46, [(.v (.int .i64 n2) .no), (.v (.int .i64 n3) .no), (.v (.sl 46 vs4) .no)]⟩)]]) (fun a0 => K (.exit 0) [(.ptr 0 1 0), (.v (.int .i64 a0) .no)] [[(1, ⟨46, [(.v (.int .i64 n2) .no), (.v (.int .i64 n3) .no), (.v (.sl 46 vs4) .no)]⟩)]]) n0 n1 := by
  kernel_rfl
theorem S_qnodes_3_ok {R : Type} (N : Nat) (f : Int → Int → List V → Option (Int)) (n2 : Int) (n3 : Int) (vs4 : List V) (K : Ex → List D → Mem → Option R) : ∀ (t : Nat) (n0 : Int) (n1 : Int),
    loopK (fun st K => codeK (cx_qnodes N f) (loopN Try.f84 0) st K) 21 [1, 3, 4] [1, 3] t [(.ptr 0 1 0), (.v (.int .i64 n0) .no), (.v (.int .i64 n1) .no)] [[(1, ⟨46, [(.v (.int .i64 n2) .no), (.v (.int .i64 n3) .no), (.v (.sl 46 vs4) .no)]⟩)]] K = S_qnodes_3 N f n2 n3 vs4 t n0 n1 (fun a0 => K (.exit 0) [(.ptr 0 1 0), (.v (.int .i64 a0) .no)] [[(1, ⟨46, [(.v (.int .i64 n2) .no), (.v (.int .i64 n3) .no), (.v (.sl 46 vs4) .no)]⟩)]])
  | 0, n0, n1 => rfl
  | t + 1, n0, n1 => (F_qnodes_3_ok N f n2 n3 vs4 n0 n1 _ K).trans (congrArg (fun L => F_qnodes_3 N f n2 n3 vs4 L (fun a0 => K (.exit 0) [(.ptr 0 1 0), (.v (.int .i64 a0) .no)] [[(1, ⟨46, [(.v (.int .i64 n2) .no), (.v (.int .i64 n3) .no), (.v (.sl 46 vs4) .no)]⟩)]]) n0 n1) (funext fun n0 => funext fun n1 => S_qnodes_3_ok N f n2 n3 vs4 K t n0 n1))
theorem B_qnodes_ok (N : Nat) (f : Int → Int → List V → Option (Int)) (x0 : Int) (x1 : Int) (x2 : List V) : bodyK (cx_qnodes N f) Try.f84 [.agg [.v (.int .i64 x0) .no, .v (.int .i64 x1) .no, .v (.sl 46 x2) .no]] [] r_qnodes = B_qnodes N f x0 x1 x2 := by
  kernel_rfl
theorem go_qnodes : Goes Try.prog 84 := goes_of Try.func84 (by kernel_rfl) (c := bodyOf Try.f84) (by kernel_rfl)
theorem eo_qnodes (s : Int → Int → List V → Option (Int)) (hs : ∀ (x0 : Int) (x1 : Int) (x2 : List V) (r0 : Int), s x0 x1 x2 = some r0 → PureRet Try.prog T 84 [.agg [.v (.int .i64 x0) .no, .v (.int .i64 x1) .no, .v (.sl 46 x2) .no]] [.v (.int .i64 r0) .no]) : EntOK Try.prog T ⟨84, e_qnodes s⟩ := by
  refine ⟨go_qnodes, fun R ds K r h => ?_, fun R ds K => ?_⟩
  · simp only [e_qnodes] at h
    split at h
    · obtain ⟨r0, h1, h2⟩ := bnd1_some h
      exact ⟨_, h2, hs _ _ _ _ h1⟩
    · cases h
  · simp only [e_qnodes]
    split
    · rw [bnd1_b]; rfl
    · rfl
theorem co_qnodes (N : Nat) (f : Int → Int → List V → Option (Int)) (hf : ∀ (x0 : Int) (x1 : Int) (x2 : List V) (r0 : Int), f x0 x1 x2 = some r0 → PureRet Try.prog T 84 [.agg [.v (.int .i64 x0) .no, .v (.int .i64 x1) .no, .v (.sl 46 x2) .no]] [.v (.int .i64 r0) .no]) : CxOK Try.prog (cx_qnodes N f) :=
  cxOK_of2 (es := [⟨84, e_qnodes f⟩]) (me := []) (ms := []) T_ok ⟨eo_qnodes f hf, trivial⟩ trivial trivial rfl (fun _ _ _ _ => rfl) (fun _ _ _ _ _ _ => rfl) rfl
theorem lk_qnodes_3 (N : Nat) (f : Int → Int → List V → Option (Int)) : LoopOK (cx_qnodes N f) 21 (loopN Try.f84 0) := by
  refine loopOK_of (rid := 3) (by kernel_rfl) rfl rfl fun R ds m K r h => ?_
  have h : l_qnodes_3 N f ds m K = some r := h
  unfold l_qnodes_3 at h
  split at h
  · exact ⟨N, Eq.trans (S_qnodes_3_ok ..) h⟩
  · cases h
theorem lo_qnodes (N : Nat) (f : Int → Int → List V → Option (Int)) : LoopsOK (cx_qnodes N f) Try.f84.ntmps (bodyOf Try.f84) :=
  loopsOK_of (k := 1) (by kernel_rfl) ⟨trivial, lk_qnodes_3 N f⟩
theorem p_qnodes (N : Nat) : ∀ (M : Nat) (x0 : Int) (x1 : Int) (x2 : List V) (r0 : Int), s_qnodes N M x0 x1 x2 = some r0 → PureRet Try.prog T 84 [.agg [.v (.int .i64 x0) .no, .v (.int .i64 x1) .no, .v (.sl 46 x2) .no]] [.v (.int .i64 r0) .no]
  | 0, _, _, _, _, h => by cases h
  | M + 1, x0, x1, x2, r0, h => pure_of (cx := cx_qnodes N (s_qnodes N M)) (by kernel_rfl) (co_qnodes N (s_qnodes N M) (p_qnodes N M)) Try.func84 (by kernel_rfl) (by kernel_rfl) (lo_qnodes N (s_qnodes N M)) rfl rfl rfl (rf := r_qnodes) ((B_qnodes_ok N (s_qnodes N M) x0 x1 x2).trans h) (fun rs' m h => by
    unfold r_qnodes at h
    split at h
    · cases h; exact ⟨rfl, rfl⟩
    · cases h)
noncomputable def e_qdepth {R : Type} (s : Int → Int → List V → Option (Int)) (ds : List D) (K : List D → Option R) : Option R :=
  match ds with
  | [.agg [.v (.int .i64 x0) .no, .v (.int .i64 x1) .no, .v (.sl 46 x2) .no]] => bnd1 (s x0 x1 x2) fun r0 => K [.v (.int .i64 r0) .no]
  | _ => none
noncomputable def r_qdepth (rs : List D) (_ : Mem) : Option (Int) :=
  match rs with
  | [.v (.int .i64 r0) _] => some (r0)
  | _ => none
noncomputable def F_qdepth_3 {R : Type} (N : Nat) (f : Int → Int → List V → Option (Int)) (n2 : Int) (n3 : Int) (vs4 : List V) (Lq : Int → Int → Option R) (K0 : Int → Option R) (n0 : Int) (n1 : Int) : Option R :=
  br (decide (n1 < (↑vs4.length : Int)))
  (br (decide (0 ≤ n1) && decide (n1 < (↑vs4.length : Int)))
    (at? vs4 n1.toNat fun x0 =>
      x0.unAgg fun l1 =>
        unCons l1 fun x2 l3 =>
          V.unInt IntKind.i64 x2 fun n4 =>
            unCons l3 fun x5 l6 =>
              V.unInt IntKind.i64 x5 fun n7 => unCons l6 fun x8 l9 => V.unSl 46 x8 fun l10 => unNil l9 (bnd1 (f n4 n7 l10) fun n11 => br (decide (n0 < n11)) (Lq n11 (IntKind.i64.wrap (n1 + 1))) (Lq n0 (IntKind.i64.wrap (n1 + 1)))))
    none)
  (K0 n0)
noncomputable def S_qdepth_3 {R : Type} (N : Nat) (f : Int → Int → List V → Option (Int)) (n2 : Int) (n3 : Int) (vs4 : List V) : Nat → Int → Int → (Int → Option R) → Option R
  | 0, _, _, _ => none
  | t + 1, n0, n1, K0 => F_qdepth_3 N f n2 n3 vs4 (fun n0 n1 => S_qdepth_3 N f n2 n3 vs4 t n0 n1 K0) K0 n0 n1
noncomputable def l_qdepth_3 {R : Type} (N : Nat) (f : Int → Int → List V → Option (Int)) (ds : List D) (m : Mem) (K : Ex → List D → Mem → Option R) : Option R :=
  match ds, m with
  | [(.ptr 0 1 0), (.v (.int .i64 n0) .no), (.v (.int .i64 n1) .no)], [[(1, ⟨46, [(.v (.int .i64 n2) .no), (.v (.int .i64 n3) .no), (.v (.sl 46 vs4) .no)]⟩)]] => S_qdepth_3 N f n2 n3 vs4 N n0 n1 (fun a0 => K (.exit 0) [(.ptr 0 1 0), (.v (.int .i64 a0) .no)] [[(1, ⟨46, [(.v (.int .i64 n2) .no), (.v (.int .i64 n3) .no), (.v (.sl 46 vs4) .no)]⟩)]])
  | _, _ => none
noncomputable def B_qdepth (N : Nat) (f : Int → Int → List V → Option (Int)) (x0 : Int) (x1 : Int) (x2 : List V) : Option (Int) :=
  S_qdepth_3 N f x0 x1 x2 N 0 0 fun n0 => some (IntKind.i64.wrap (n0 + 1))
noncomputable def s_qdepth (N : Nat) : Nat → Int → Int → List V → Option (Int)
  | 0, _, _, _ => none
  | n + 1, x0, x1, x2 => B_qdepth N (s_qdepth N n) x0 x1 x2
noncomputable def cx_qdepth (N : Nat) (f : Int → Int → List V → Option (Int)) : Cx := { T := T, isPure := tabP [⟨85, e_qdepth f⟩], pureK := fun g ds K => tabK [⟨85, e_qdepth f⟩] g ds K, memK := fun g dst ds m K => tabMK [] g dst ds m K, meth := tabM [], keep := fun r => match r with | 3 => [1, 3, 4] | _ => [], keepX := fun r => match r with | 3 => [1, 3] | _ => [], loopT := fun r ds m K => match r with | 3 => l_qdepth_3 N f ds m K | _ => none, jumps := 9 }
theorem F_qdepth_3_ok {R : Type} (N : Nat) (f : Int → Int → List V → Option (Int)) (n2 : Int) (n3 : Int) (vs4 : List V) (n0 : Int) (n1 : Int) (L : List D → Mem → Option R) (K : Ex → List D → Mem → Option R) :
    roundK (fun st K => codeK (cx_qdepth N f) (loopN Try.f85 0) st K) 25 [1, 3, 4] [1, 3] L [(.ptr 0 1 0), (.v (.int .i64 n0) .no), (.v (.int .i64 n1) .no)] [[(1, ⟨46, [(.v (.int .i64 n2) .no), (.v (.int .i64 n3) .no), (.v (.sl 46 vs4) .no)]⟩)]] K = F_qdepth_3 N f n2 n3 vs4 (fun n0 n1 => L [(.ptr 0 1 0), (.v (.int .i64 n0) .no), (.v (.int .i64 n1) .no)] [[(1, ⟨46, [(.v (.int .i64 n2) .no), (.v (.int .i64 n3) .no), (.v (.sl 46 vs4) .no)]⟩)]]) (fun a0 => K (.exit 0) [(.ptr 0 1 0), (.v (.int .i64 a0) .no)] [[(1, ⟨46, [(.v (.int .i64 n2) .no), (.v (.int .i64 n3) .no), (.v (.sl 46 vs4) .no)]⟩)]]) n0 n1 := by
  kernel_rfl
theorem S_qdepth_3_ok {R : Type} (N : Nat) (f : Int → Int → List V → Option (Int)) (n2 : Int) (n3 : Int) (vs4 : List V) (K : Ex → List D → Mem → Option R) : ∀ (t : Nat) (n0 : Int) (n1 : Int),
    loopK (fun st K => codeK (cx_qdepth N f) (loopN Try.f85 0) st K) 25 [1, 3, 4] [1, 3] t [(.ptr 0 1 0), (.v (.int .i64 n0) .no), (.v (.int .i64 n1) .no)] [[(1, ⟨46, [(.v (.int .i64 n2) .no), (.v (.int .i64 n3) .no), (.v (.sl 46 vs4) .no)]⟩)]] K = S_qdepth_3 N f n2 n3 vs4 t n0 n1 (fun a0 => K (.exit 0) [(.ptr 0 1 0), (.v (.int .i64 a0) .no)] [[(1, ⟨46, [(.v (.int .i64 n2) .no), (.v (.int .i64 n3) .no), (.v (.sl 46 vs4) .no)]⟩)]])
  | 0, n0, n1 => rfl
  | t + 1, n0, n1 => (F_qdepth_3_ok N f n2 n3 vs4 n0 n1 _ K).trans (congrArg (fun L => F_qdepth_3 N f n2 n3 vs4 L (fun a0 => K (.exit 0) [(.ptr 0 1 0), (.v (.int .i64 a0) .no)] [[(1, ⟨46, [(.v (.int .i64 n2) .no), (.v (.int .i64 n3) .no), (.v (.sl 46 vs4) .no)]⟩)]]) n0 n1) (funext fun n0 => funext fun n1 => S_qdepth_3_ok N f n2 n3 vs4 K t n0 n1))
theorem B_qdepth_ok (N : Nat) (f : Int → Int → List V → Option (Int)) (x0 : Int) (x1 : Int) (x2 : List V) : bodyK (cx_qdepth N f) Try.f85 [.agg [.v (.int .i64 x0) .no, .v (.int .i64 x1) .no, .v (.sl 46 x2) .no]] [] r_qdepth = B_qdepth N f x0 x1 x2 := by
  kernel_rfl
theorem go_qdepth : Goes Try.prog 85 := goes_of Try.func85 (by kernel_rfl) (c := bodyOf Try.f85) (by kernel_rfl)
theorem eo_qdepth (s : Int → Int → List V → Option (Int)) (hs : ∀ (x0 : Int) (x1 : Int) (x2 : List V) (r0 : Int), s x0 x1 x2 = some r0 → PureRet Try.prog T 85 [.agg [.v (.int .i64 x0) .no, .v (.int .i64 x1) .no, .v (.sl 46 x2) .no]] [.v (.int .i64 r0) .no]) : EntOK Try.prog T ⟨85, e_qdepth s⟩ := by
  refine ⟨go_qdepth, fun R ds K r h => ?_, fun R ds K => ?_⟩
  · simp only [e_qdepth] at h
    split at h
    · obtain ⟨r0, h1, h2⟩ := bnd1_some h
      exact ⟨_, h2, hs _ _ _ _ h1⟩
    · cases h
  · simp only [e_qdepth]
    split
    · rw [bnd1_b]; rfl
    · rfl
theorem co_qdepth (N : Nat) (f : Int → Int → List V → Option (Int)) (hf : ∀ (x0 : Int) (x1 : Int) (x2 : List V) (r0 : Int), f x0 x1 x2 = some r0 → PureRet Try.prog T 85 [.agg [.v (.int .i64 x0) .no, .v (.int .i64 x1) .no, .v (.sl 46 x2) .no]] [.v (.int .i64 r0) .no]) : CxOK Try.prog (cx_qdepth N f) :=
  cxOK_of2 (es := [⟨85, e_qdepth f⟩]) (me := []) (ms := []) T_ok ⟨eo_qdepth f hf, trivial⟩ trivial trivial rfl (fun _ _ _ _ => rfl) (fun _ _ _ _ _ _ => rfl) rfl
theorem lk_qdepth_3 (N : Nat) (f : Int → Int → List V → Option (Int)) : LoopOK (cx_qdepth N f) 25 (loopN Try.f85 0) := by
  refine loopOK_of (rid := 3) (by kernel_rfl) rfl rfl fun R ds m K r h => ?_
  have h : l_qdepth_3 N f ds m K = some r := h
  unfold l_qdepth_3 at h
  split at h
  · exact ⟨N, Eq.trans (S_qdepth_3_ok ..) h⟩
  · cases h
theorem lo_qdepth (N : Nat) (f : Int → Int → List V → Option (Int)) : LoopsOK (cx_qdepth N f) Try.f85.ntmps (bodyOf Try.f85) :=
  loopsOK_of (k := 1) (by kernel_rfl) ⟨trivial, lk_qdepth_3 N f⟩
theorem p_qdepth (N : Nat) : ∀ (M : Nat) (x0 : Int) (x1 : Int) (x2 : List V) (r0 : Int), s_qdepth N M x0 x1 x2 = some r0 → PureRet Try.prog T 85 [.agg [.v (.int .i64 x0) .no, .v (.int .i64 x1) .no, .v (.sl 46 x2) .no]] [.v (.int .i64 r0) .no]
  | 0, _, _, _, _, h => by cases h
  | M + 1, x0, x1, x2, r0, h => pure_of (cx := cx_qdepth N (s_qdepth N M)) (by kernel_rfl) (co_qdepth N (s_qdepth N M) (p_qdepth N M)) Try.func85 (by kernel_rfl) (by kernel_rfl) (lo_qdepth N (s_qdepth N M)) rfl rfl rfl (rf := r_qdepth) ((B_qdepth_ok N (s_qdepth N M) x0 x1 x2).trans h) (fun rs' m h => by
    unfold r_qdepth at h
    split at h
    · cases h; exact ⟨rfl, rfl⟩
    · cases h)
noncomputable def e_qCheck {R : Type} (s : Int → Int → List V → Option (Int)) (ds : List D) (K : List D → Option R) : Option R :=
  match ds with
  | [.agg [.v (.int .i64 x0) .no, .v (.int .i64 x1) .no, .v (.sl 46 x2) .no]] => bnd1 (s x0 x1 x2) fun r0 => K [.v (.int .i64 r0) .no]
  | _ => none
noncomputable def r_qCheck (rs : List D) (_ : Mem) : Option (Int) :=
  match rs with
  | [.v (.int .i64 r0) _] => some (r0)
  | _ => none
noncomputable def s_qCheck (N : Nat) (x0 : Int) (x1 : Int) (x2 : List V) : Option (Int) :=
  bnd1 (s_qvalid N N x0 x1 x2) fun b0 => br (!b0) (some 1) (bnd1 (s_qnodes N N x0 x1 x2) fun n1 => br (decide (16 < n1)) (some 3) (bnd1 (s_qdepth N N x0 x1 x2) fun n2 => br (decide (8 < n2)) (some 3) (some 0)))
noncomputable def cx_qCheck (N : Nat) : Cx := { T := T, isPure := tabP [⟨83, e_qvalid (s_qvalid N N)⟩, ⟨84, e_qnodes (s_qnodes N N)⟩, ⟨85, e_qdepth (s_qdepth N N)⟩], pureK := fun g ds K => tabK [⟨83, e_qvalid (s_qvalid N N)⟩, ⟨84, e_qnodes (s_qnodes N N)⟩, ⟨85, e_qdepth (s_qdepth N N)⟩] g ds K, memK := fun g dst ds m K => tabMK [] g dst ds m K, meth := tabM [], keep := fun _ => [], keepX := fun _ => [], loopT := fun _ _ _ _ => none, jumps := 9 }
theorem s_qCheck_ok (N : Nat) (x0 : Int) (x1 : Int) (x2 : List V) : bodyK (cx_qCheck N) Try.f58 [.agg [.v (.int .i64 x0) .no, .v (.int .i64 x1) .no, .v (.sl 46 x2) .no]] [] r_qCheck = s_qCheck N x0 x1 x2 := by
  kernel_rfl
theorem go_qCheck : Goes Try.prog 58 := goes_of Try.func58 (by kernel_rfl) (c := bodyOf Try.f58) (by kernel_rfl)
theorem eo_qCheck (s : Int → Int → List V → Option (Int)) (hs : ∀ (x0 : Int) (x1 : Int) (x2 : List V) (r0 : Int), s x0 x1 x2 = some r0 → PureRet Try.prog T 58 [.agg [.v (.int .i64 x0) .no, .v (.int .i64 x1) .no, .v (.sl 46 x2) .no]] [.v (.int .i64 r0) .no]) : EntOK Try.prog T ⟨58, e_qCheck s⟩ := by
  refine ⟨go_qCheck, fun R ds K r h => ?_, fun R ds K => ?_⟩
  · simp only [e_qCheck] at h
    split at h
    · obtain ⟨r0, h1, h2⟩ := bnd1_some h
      exact ⟨_, h2, hs _ _ _ _ h1⟩
    · cases h
  · simp only [e_qCheck]
    split
    · rw [bnd1_b]; rfl
    · rfl
theorem co_qCheck (N : Nat) : CxOK Try.prog (cx_qCheck N) :=
  cxOK_of2 (es := [⟨83, e_qvalid (s_qvalid N N)⟩, ⟨84, e_qnodes (s_qnodes N N)⟩, ⟨85, e_qdepth (s_qdepth N N)⟩]) (me := []) (ms := []) T_ok ⟨eo_qvalid _ (p_qvalid N N), eo_qnodes _ (p_qnodes N N), eo_qdepth _ (p_qdepth N N), trivial⟩ trivial trivial rfl (fun _ _ _ _ => rfl) (fun _ _ _ _ _ _ => rfl) rfl
theorem lo_qCheck (N : Nat) : LoopsOK (cx_qCheck N) Try.f58.ntmps (bodyOf Try.f58) :=
  loopsOK_of (k := 0) (by kernel_rfl) trivial
theorem p_qCheck (N : Nat) (x0 : Int) (x1 : Int) (x2 : List V) (r0 : Int) (h : s_qCheck N x0 x1 x2 = some r0) : PureRet Try.prog T 58 [.agg [.v (.int .i64 x0) .no, .v (.int .i64 x1) .no, .v (.sl 46 x2) .no]] [.v (.int .i64 r0) .no] :=
  pure_of (cx := cx_qCheck N) (by kernel_rfl) (co_qCheck N) Try.func58 (by kernel_rfl) (by kernel_rfl) (lo_qCheck N) rfl rfl rfl (rf := r_qCheck) ((s_qCheck_ok N x0 x1 x2).trans h) (fun rs' m h => by
    unfold r_qCheck at h
    split at h
    · cases h; exact ⟨rfl, rfl⟩
    · cases h)
noncomputable def e_qCheckRules {R : Type} (s : List V → Option (Int)) (ds : List D) (K : List D → Option R) : Option R :=
  match ds with
  | [.v (.sl 48 x0) .no] => bnd1 (s x0) fun r0 => K [.v (.int .i64 r0) .no]
  | _ => none
noncomputable def r_qCheckRules (rs : List D) (_ : Mem) : Option (Int) :=
  match rs with
  | [.v (.int .i64 r0) _] => some (r0)
  | _ => none
noncomputable def F_qCheckRules_4 {R : Type} (N : Nat) (vs0 : List V) (Lq : Int → Option R) (K0 : Int → Option R) (K1 : Option R) (n1 : Int) : Option R :=
  br (decide (n1 < (↑vs0.length : Int)))
  (br (decide (0 ≤ n1) && decide (n1 < (↑vs0.length : Int)))
    (at? vs0 n1.toNat fun x0 =>
      x0.unAgg fun l1 =>
        unCons l1 fun x2 l3 =>
          V.unInt IntKind.i64 x2 fun n4 =>
            unCons l3 fun x5 l6 =>
              V.unInt IntKind.i64 x5 fun n7 =>
                unCons l6 fun x8 l9 =>
                  V.unInt IntKind.i64 x8 fun n10 =>
                    unCons l9 fun x11 l12 =>
                      V.unSl 46 x11 fun l13 =>
                        unNil l12
                          (br (decide (n4 < 1)) (K0 1)
                            (br (decide (0 ≤ n1) && decide (n1 < (↑vs0.length : Int)))
                              (at? vs0 n1.toNat fun x14 =>
                                x14.unAgg fun l15 =>
                                  unCons l15 fun x16 l17 =>
                                    V.unInt IntKind.i64 x16 fun n18 =>
                                      unCons l17 fun x19 l20 =>
                                        V.unInt IntKind.i64 x19 fun n21 =>
                                          unCons l20 fun x22 l23 =>
                                            V.unInt IntKind.i64 x22 fun n24 =>
                                              unCons l23 fun x25 l26 =>
                                                V.unSl 46 x25 fun l27 =>
                                                  unNil l26
                                                    (br (decide (255 < n18)) (K0 1)
                                                      (br (decide (0 ≤ n1) && decide (n1 < (↑vs0.length : Int)))
                                                        (at? vs0 n1.toNat fun x28 =>
                                                          x28.unAgg fun l29 =>
                                                            unCons l29 fun x30 l31 =>
                                                              V.unInt IntKind.i64 x30 fun n32 =>
                                                                unCons l31 fun x33 l34 =>
                                                                  V.unInt IntKind.i64 x33 fun n35 =>
                                                                    unCons l34 fun x36 l37 =>
                                                                      V.unInt IntKind.i64 x36 fun n38 =>
                                                                        unCons l37 fun x39 l40 =>
                                                                          V.unSl 46 x39 fun l41 => unNil l40 (bnd1 (s_qCheck N n35 n38 l41) fun n42 => br (!decide (n42 = 0)) (K0 n42) (Lq (IntKind.i64.wrap (n1 + 1)))))
                                                        none)))
                              none)))
    none)
  K1
noncomputable def S_qCheckRules_4 {R : Type} (N : Nat) (vs0 : List V) : Nat → Int → (Int → Option R) → (Option R) → Option R
  | 0, _, _, _ => none
  | t + 1, n1, K0, K1 => F_qCheckRules_4 N vs0 (fun n1 => S_qCheckRules_4 N vs0 t n1 K0 K1) K0 K1 n1
noncomputable def l_qCheckRules_4 {R : Type} (N : Nat) (ds : List D) (m : Mem) (K : Ex → List D → Mem → Option R) : Option R :=
  match ds, m with
  | [(.v (.sl 48 vs0) .no), (.v (.int .i64 n1) .no)], [[]] => S_qCheckRules_4 N vs0 N n1 (fun a0 => K .ret [(.v (.int .i64 a0) .no)] [[]]) (K (.exit 0) [.any] [[]])
  | _, _ => none
noncomputable def s_qCheckRules (N : Nat) (x0 : List V) : Option (Int) :=
  br (decide (8 < (↑x0.length : Int))) (some 3) (S_qCheckRules_4 N x0 N 0 (fun n0 => some n0) (some 0))
noncomputable def cx_qCheckRules (N : Nat) : Cx := { T := T, isPure := tabP [⟨58, e_qCheck (s_qCheck N)⟩], pureK := fun g ds K => tabK [⟨58, e_qCheck (s_qCheck N)⟩] g ds K, memK := fun g dst ds m K => tabMK [] g dst ds m K, meth := tabM [], keep := fun r => match r with | 4 => [0, 3] | _ => [], keepX := fun r => match r with | 4 => [2] | _ => [], loopT := fun r ds m K => match r with | 4 => l_qCheckRules_4 N ds m K | _ => none, jumps := 9 }
theorem F_qCheckRules_4_ok {R : Type} (N : Nat) (vs0 : List V) (n1 : Int) (L : List D → Mem → Option R) (K : Ex → List D → Mem → Option R) :
    roundK (fun st K => codeK (cx_qCheckRules N) (loopN Try.f32 0) st K) 37 [0, 3] [2] L [(.v (.sl 48 vs0) .no), (.v (.int .i64 n1) .no)] [[]] K = F_qCheckRules_4 N vs0 (fun n1 => L [(.v (.sl 48 vs0) .no), (.v (.int .i64 n1) .no)] [[]]) (fun a0 => K .ret [(.v (.int .i64 a0) .no)] [[]]) (K (.exit 0) [.any] [[]]) n1 := by
  kernel_rfl
theorem S_qCheckRules_4_ok {R : Type} (N : Nat) (vs0 : List V) (K : Ex → List D → Mem → Option R) : ∀ (t : Nat) (n1 : Int),
    loopK (fun st K => codeK (cx_qCheckRules N) (loopN Try.f32 0) st K) 37 [0, 3] [2] t [(.v (.sl 48 vs0) .no), (.v (.int .i64 n1) .no)] [[]] K = S_qCheckRules_4 N vs0 t n1 (fun a0 => K .ret [(.v (.int .i64 a0) .no)] [[]]) (K (.exit 0) [.any] [[]])
  | 0, n1 => rfl
  | t + 1, n1 => (F_qCheckRules_4_ok N vs0 n1 _ K).trans (congrArg (fun L => F_qCheckRules_4 N vs0 L (fun a0 => K .ret [(.v (.int .i64 a0) .no)] [[]]) (K (.exit 0) [.any] [[]]) n1) (funext fun n1 => S_qCheckRules_4_ok N vs0 K t n1))
theorem s_qCheckRules_ok (N : Nat) (x0 : List V) : bodyK (cx_qCheckRules N) Try.f32 [.v (.sl 48 x0) .no] [] r_qCheckRules = s_qCheckRules N x0 := by
  kernel_rfl
theorem go_qCheckRules : Goes Try.prog 32 := goes_of Try.func32 (by kernel_rfl) (c := bodyOf Try.f32) (by kernel_rfl)
theorem eo_qCheckRules (s : List V → Option (Int)) (hs : ∀ (x0 : List V) (r0 : Int), s x0 = some r0 → PureRet Try.prog T 32 [.v (.sl 48 x0) .no] [.v (.int .i64 r0) .no]) : EntOK Try.prog T ⟨32, e_qCheckRules s⟩ := by
  refine ⟨go_qCheckRules, fun R ds K r h => ?_, fun R ds K => ?_⟩
  · simp only [e_qCheckRules] at h
    split at h
    · obtain ⟨r0, h1, h2⟩ := bnd1_some h
      exact ⟨_, h2, hs _ _ h1⟩
    · cases h
  · simp only [e_qCheckRules]
    split
    · rw [bnd1_b]; rfl
    · rfl
theorem co_qCheckRules (N : Nat) : CxOK Try.prog (cx_qCheckRules N) :=
  cxOK_of2 (es := [⟨58, e_qCheck (s_qCheck N)⟩]) (me := []) (ms := []) T_ok ⟨eo_qCheck _ (p_qCheck N), trivial⟩ trivial trivial rfl (fun _ _ _ _ => rfl) (fun _ _ _ _ _ _ => rfl) rfl
theorem lk_qCheckRules_4 (N : Nat) : LoopOK (cx_qCheckRules N) 37 (loopN Try.f32 0) := by
  refine loopOK_of (rid := 4) (by kernel_rfl) rfl rfl fun R ds m K r h => ?_
  have h : l_qCheckRules_4 N ds m K = some r := h
  unfold l_qCheckRules_4 at h
  split at h
  · exact ⟨N, Eq.trans (S_qCheckRules_4_ok ..) h⟩
  · cases h
theorem lo_qCheckRules (N : Nat) : LoopsOK (cx_qCheckRules N) Try.f32.ntmps (bodyOf Try.f32) :=
  loopsOK_of (k := 1) (by kernel_rfl) ⟨trivial, lk_qCheckRules_4 N⟩
theorem p_qCheckRules (N : Nat) (x0 : List V) (r0 : Int) (h : s_qCheckRules N x0 = some r0) : PureRet Try.prog T 32 [.v (.sl 48 x0) .no] [.v (.int .i64 r0) .no] :=
  pure_of (cx := cx_qCheckRules N) (by kernel_rfl) (co_qCheckRules N) Try.func32 (by kernel_rfl) (by kernel_rfl) (lo_qCheckRules N) rfl rfl rfl (rf := r_qCheckRules) ((s_qCheckRules_ok N x0).trans h) (fun rs' m h => by
    unfold r_qCheckRules at h
    split at h
    · cases h; exact ⟨rfl, rfl⟩
    · cases h)
noncomputable def e_qBytes {R : Type} (s : Int → Int → List V → Option (List UInt8)) (ds : List D) (K : List D → Option R) : Option R :=
  match ds with
  | [.agg [.v (.int .i64 x0) .no, .v (.int .i64 x1) .no, .v (.sl 46 x2) .no]] => bnd1 (s x0 x1 x2) fun r0 => K [.v (.bytes r0) .no]
  | _ => none
noncomputable def r_qBytes (rs : List D) (_ : Mem) : Option (List UInt8) :=
  match rs with
  | [.v (.bytes r0) _] => some (r0)
  | _ => none
noncomputable def F_qBytes_5 {R : Type} (N : Nat) (f : Int → Int → List V → Option (List UInt8)) (n2 : Int) (n3 : Int) (vs4 : List V) (Lq : List UInt8 → Int → Option R) (K0 : List UInt8 → Option R) (l0 : List UInt8) (n1 : Int) : Option R :=
  br (decide (n1 < (↑vs4.length : Int)))
  (br (decide (0 ≤ n1) && decide (n1 < (↑vs4.length : Int)))
    (at? vs4 n1.toNat fun x0 =>
      x0.unAgg fun l1 =>
        unCons l1 fun x2 l3 =>
          V.unInt IntKind.i64 x2 fun n4 =>
            unCons l3 fun x5 l6 =>
              V.unInt IntKind.i64 x5 fun n7 =>
                unCons l6 fun x8 l9 => V.unSl 46 x8 fun l10 => unNil l9 (bnd1 (f n4 n7 l10) fun l11 => br (decide ((l0.length + l11.length) * 1 ≤ 140737488355328)) (Lq (l0 ++ l11) (IntKind.i64.wrap (n1 + 1))) none))
    none)
  (K0 l0)
noncomputable def S_qBytes_5 {R : Type} (N : Nat) (f : Int → Int → List V → Option (List UInt8)) (n2 : Int) (n3 : Int) (vs4 : List V) : Nat → List UInt8 → Int → (List UInt8 → Option R) → Option R
  | 0, _, _, _ => none
  | t + 1, l0, n1, K0 => F_qBytes_5 N f n2 n3 vs4 (fun l0 n1 => S_qBytes_5 N f n2 n3 vs4 t l0 n1 K0) K0 l0 n1
noncomputable def l_qBytes_5 {R : Type} (N : Nat) (f : Int → Int → List V → Option (List UInt8)) (ds : List D) (m : Mem) (K : Ex → List D → Mem → Option R) : Option R :=
  match ds, m with
  | [(.ptr 0 1 0), (.v (.bytes l0) (.own (.slot 3) 5)), (.v (.int .i64 n1) .no)], [[(1, ⟨46, [(.v (.int .i64 n2) .no), (.v (.int .i64 n3) .no), (.v (.sl 46 vs4) .no)]⟩)]] => S_qBytes_5 N f n2 n3 vs4 N l0 n1 (fun a0 => K (.exit 0) [(.ptr 0 1 0), (.v (.bytes a0) (.own (.slot 3) 5))] [[(1, ⟨46, [(.v (.int .i64 n2) .no), (.v (.int .i64 n3) .no), (.v (.sl 46 vs4) .no)]⟩)]])
  | _, _ => none
noncomputable def B_qBytes (N : Nat) (f : Int → Int → List V → Option (List UInt8)) (x0 : Int) (x1 : Int) (x2 : List V) : Option (List UInt8) :=
  br (decide (6 ≤ x0)) (S_qBytes_5 N f x0 x1 x2 N [UInt8.ofNat (IntKind.u8.wrap x0).toNat, UInt8.ofNat (IntKind.u8.wrap (↑x2.length : Int)).toNat] 0 fun l0 => some l0)
  (br (decide (2 ≤ x0)) (some [UInt8.ofNat (IntKind.u8.wrap x0).toNat, UInt8.ofNat (IntKind.u8.wrap x1).toNat]) (some [UInt8.ofNat (IntKind.u8.wrap x0).toNat]))
noncomputable def s_qBytes (N : Nat) : Nat → Int → Int → List V → Option (List UInt8)
  | 0, _, _, _ => none
  | n + 1, x0, x1, x2 => B_qBytes N (s_qBytes N n) x0 x1 x2
noncomputable def cx_qBytes (N : Nat) (f : Int → Int → List V → Option (List UInt8)) : Cx := { T := T, isPure := tabP [⟨98, e_qBytes f⟩], pureK := fun g ds K => tabK [⟨98, e_qBytes f⟩] g ds K, memK := fun g dst ds m K => tabMK [] g dst ds m K, meth := tabM [], keep := fun r => match r with | 5 => [1, 3, 4] | _ => [], keepX := fun r => match r with | 5 => [1, 3] | _ => [], loopT := fun r ds m K => match r with | 5 => l_qBytes_5 N f ds m K | _ => none, jumps := 9 }
theorem F_qBytes_5_ok {R : Type} (N : Nat) (f : Int → Int → List V → Option (List UInt8)) (n2 : Int) (n3 : Int) (vs4 : List V) (l0 : List UInt8) (n1 : Int) (L : List D → Mem → Option R) (K : Ex → List D → Mem → Option R) :
    roundK (fun st K => codeK (cx_qBytes N f) (loopN Try.f98 0) st K) 45 [1, 3, 4] [1, 3] L [(.ptr 0 1 0), (.v (.bytes l0) (.own (.slot 3) 5)), (.v (.int .i64 n1) .no)] [[(1, ⟨46, [(.v (.int .i64 n2) .no), (.v (.int .i64 n3) .no), (.v (.sl 46 vs4) .no)]⟩)]] K = F_qBytes_5 N f n2 n3 vs4 (fun l0 n1 => L [(.ptr 0 1 0), (.v (.bytes l0) (.own (.slot 3) 5)), (.v (.int .i64 n1) .no)] [[(1, ⟨46, [(.v (.int .i64 n2) .no), (.v (.int .i64 n3) .no), (.v (.sl 46 vs4) .no)]⟩)]]) (fun a0 => K (.exit 0) [(.ptr 0 1 0), (.v (.bytes a0) (.own (.slot 3) 5))] [[(1, ⟨46, [(.v (.int .i64 n2) .no), (.v (.int .i64 n3) .no), (.v (.sl 46 vs4) .no)]⟩)]]) l0 n1 := by
  kernel_rfl
theorem S_qBytes_5_ok {R : Type} (N : Nat) (f : Int → Int → List V → Option (List UInt8)) (n2 : Int) (n3 : Int) (vs4 : List V) (K : Ex → List D → Mem → Option R) : ∀ (t : Nat) (l0 : List UInt8) (n1 : Int),
    loopK (fun st K => codeK (cx_qBytes N f) (loopN Try.f98 0) st K) 45 [1, 3, 4] [1, 3] t [(.ptr 0 1 0), (.v (.bytes l0) (.own (.slot 3) 5)), (.v (.int .i64 n1) .no)] [[(1, ⟨46, [(.v (.int .i64 n2) .no), (.v (.int .i64 n3) .no), (.v (.sl 46 vs4) .no)]⟩)]] K = S_qBytes_5 N f n2 n3 vs4 t l0 n1 (fun a0 => K (.exit 0) [(.ptr 0 1 0), (.v (.bytes a0) (.own (.slot 3) 5))] [[(1, ⟨46, [(.v (.int .i64 n2) .no), (.v (.int .i64 n3) .no), (.v (.sl 46 vs4) .no)]⟩)]])
  | 0, l0, n1 => rfl
  | t + 1, l0, n1 => (F_qBytes_5_ok N f n2 n3 vs4 l0 n1 _ K).trans (congrArg (fun L => F_qBytes_5 N f n2 n3 vs4 L (fun a0 => K (.exit 0) [(.ptr 0 1 0), (.v (.bytes a0) (.own (.slot 3) 5))] [[(1, ⟨46, [(.v (.int .i64 n2) .no), (.v (.int .i64 n3) .no), (.v (.sl 46 vs4) .no)]⟩)]]) l0 n1) (funext fun l0 => funext fun n1 => S_qBytes_5_ok N f n2 n3 vs4 K t l0 n1))
theorem B_qBytes_ok (N : Nat) (f : Int → Int → List V → Option (List UInt8)) (x0 : Int) (x1 : Int) (x2 : List V) : bodyK (cx_qBytes N f) Try.f98 [.agg [.v (.int .i64 x0) .no, .v (.int .i64 x1) .no, .v (.sl 46 x2) .no]] [] r_qBytes = B_qBytes N f x0 x1 x2 := by
  kernel_rfl
theorem go_qBytes : Goes Try.prog 98 := goes_of Try.func98 (by kernel_rfl) (c := bodyOf Try.f98) (by kernel_rfl)
theorem eo_qBytes (s : Int → Int → List V → Option (List UInt8)) (hs : ∀ (x0 : Int) (x1 : Int) (x2 : List V) (r0 : List UInt8), s x0 x1 x2 = some r0 → PureRet Try.prog T 98 [.agg [.v (.int .i64 x0) .no, .v (.int .i64 x1) .no, .v (.sl 46 x2) .no]] [.v (.bytes r0) .no]) : EntOK Try.prog T ⟨98, e_qBytes s⟩ := by
  refine ⟨go_qBytes, fun R ds K r h => ?_, fun R ds K => ?_⟩
  · simp only [e_qBytes] at h
    split at h
    · obtain ⟨r0, h1, h2⟩ := bnd1_some h
      exact ⟨_, h2, hs _ _ _ _ h1⟩
    · cases h
  · simp only [e_qBytes]
    split
    · rw [bnd1_b]; rfl
    · rfl
theorem co_qBytes (N : Nat) (f : Int → Int → List V → Option (List UInt8)) (hf : ∀ (x0 : Int) (x1 : Int) (x2 : List V) (r0 : List UInt8), f x0 x1 x2 = some r0 → PureRet Try.prog T 98 [.agg [.v (.int .i64 x0) .no, .v (.int .i64 x1) .no, .v (.sl 46 x2) .no]] [.v (.bytes r0) .no]) : CxOK Try.prog (cx_qBytes N f) :=
  cxOK_of2 (es := [⟨98, e_qBytes f⟩]) (me := []) (ms := []) T_ok ⟨eo_qBytes f hf, trivial⟩ trivial trivial rfl (fun _ _ _ _ => rfl) (fun _ _ _ _ _ _ => rfl) rfl
theorem lk_qBytes_5 (N : Nat) (f : Int → Int → List V → Option (List UInt8)) : LoopOK (cx_qBytes N f) 45 (loopN Try.f98 0) := by
  refine loopOK_of (rid := 5) (by kernel_rfl) rfl rfl fun R ds m K r h => ?_
  have h : l_qBytes_5 N f ds m K = some r := h
  unfold l_qBytes_5 at h
  split at h
  · exact ⟨N, Eq.trans (S_qBytes_5_ok ..) h⟩
  · cases h
theorem lo_qBytes (N : Nat) (f : Int → Int → List V → Option (List UInt8)) : LoopsOK (cx_qBytes N f) Try.f98.ntmps (bodyOf Try.f98) :=
  loopsOK_of (k := 1) (by kernel_rfl) ⟨trivial, lk_qBytes_5 N f⟩
theorem p_qBytes (N : Nat) : ∀ (M : Nat) (x0 : Int) (x1 : Int) (x2 : List V) (r0 : List UInt8), s_qBytes N M x0 x1 x2 = some r0 → PureRet Try.prog T 98 [.agg [.v (.int .i64 x0) .no, .v (.int .i64 x1) .no, .v (.sl 46 x2) .no]] [.v (.bytes r0) .no]
  | 0, _, _, _, _, h => by cases h
  | M + 1, x0, x1, x2, r0, h => pure_of (cx := cx_qBytes N (s_qBytes N M)) (by kernel_rfl) (co_qBytes N (s_qBytes N M) (p_qBytes N M)) Try.func98 (by kernel_rfl) (by kernel_rfl) (lo_qBytes N (s_qBytes N M)) rfl rfl rfl (rf := r_qBytes) ((B_qBytes_ok N (s_qBytes N M) x0 x1 x2).trans h) (fun rs' m h => by
    unfold r_qBytes at h
    split at h
    · cases h; exact ⟨rfl, rfl⟩
    · cases h)
noncomputable def e_qEncode {R : Type} (s : List V → Option (List UInt8 × Int)) (ds : List D) (K : List D → Option R) : Option R :=
  match ds with
  | [.v (.sl 48 x0) .no] => bnd2 (s x0) fun r0 r1 => K [.v (.bytes r0) .no, .v (.int .i64 r1) .no]
  | _ => none
noncomputable def r_qEncode (rs : List D) (_ : Mem) : Option (List UInt8 × Int) :=
  match rs with
  | [.v (.bytes r0) _, .v (.int .i64 r1) _] => some (r0, r1)
  | _ => none
noncomputable def F_qEncode_6 {R : Type} (N : Nat) (vs0 : List V) (Lq : List V → Int → Option R) (K0 : List V → Option R) (vs1 : List V) (n2 : Int) : Option R :=
  br (decide (n2 < (↑vs0.length : Int)))
  (br (decide (0 ≤ n2) && decide (n2 < (↑vs0.length : Int)))
    (at? vs0 n2.toNat fun x0 =>
      x0.unAgg fun l1 =>
        unCons l1 fun x2 l3 =>
          V.unInt IntKind.i64 x2 fun n4 =>
            unCons l3 fun x5 l6 =>
              V.unInt IntKind.i64 x5 fun n7 =>
                unCons l6 fun x8 l9 =>
                  V.unInt IntKind.i64 x8 fun n10 =>
                    unCons l9 fun x11 l12 =>
                      V.unSl 46 x11 fun l13 =>
                        unNil l12
                          (br (decide (0 ≤ n2) && decide (n2 < (↑vs0.length : Int)))
                            (at? vs0 n2.toNat fun x14 =>
                              x14.unAgg fun l15 =>
                                unCons l15 fun x16 l17 =>
                                  V.unInt IntKind.i64 x16 fun n18 =>
                                    unCons l17 fun x19 l20 =>
                                      V.unInt IntKind.i64 x19 fun n21 =>
                                        unCons l20 fun x22 l23 =>
                                          V.unInt IntKind.i64 x22 fun n24 =>
                                            unCons l23 fun x25 l26 =>
                                              V.unSl 46 x25 fun l27 =>
                                                unNil l26
                                                  (bnd1 (s_qBytes N N n21 n24 l27) fun l28 =>
                                                    br (decide (([UInt8.ofNat (IntKind.u8.wrap n4).toNat].length + l28.length) * 1 ≤ 140737488355328))
                                                      (br (decide ((vs1.length + [V.agg [V.int IntKind.i64 128, V.bytes (UInt8.ofNat (IntKind.u8.wrap n4).toNat :: [].append l28), V.sl 62 []]].length) * 56 ≤ 140737488355328))
                                                        (Lq (vs1 ++ [V.agg [V.int IntKind.i64 128, V.bytes (UInt8.ofNat (IntKind.u8.wrap n4).toNat :: [].append l28), V.sl 62 []]]) (IntKind.i64.wrap (n2 + 1))) none)
                                                      none))
                            none))
    none)
  (K0 vs1)
noncomputable def S_qEncode_6 {R : Type} (N : Nat) (vs0 : List V) : Nat → List V → Int → (List V → Option R) → Option R
  | 0, _, _, _ => none
  | t + 1, vs1, n2, K0 => F_qEncode_6 N vs0 (fun vs1 n2 => S_qEncode_6 N vs0 t vs1 n2 K0) K0 vs1 n2
noncomputable def l_qEncode_6 {R : Type} (N : Nat) (ds : List D) (m : Mem) (K : Ex → List D → Mem → Option R) : Option R :=
  match ds, m with
  | [(.v (.sl 48 vs0) .no), (.v (.sl 62 vs1) (.own (.slot 5) 62)), (.v (.int .i64 n2) .no)], [[]] => S_qEncode_6 N vs0 N vs1 n2 (fun a0 => K (.exit 0) [(.v (.sl 62 a0) (.own (.slot 5) 62))] [[]])
  | _, _ => none
noncomputable def s_qEncode (N : Nat) (x0 : List V) : Option (List UInt8 × Int) :=
  bnd1 (s_qCheckRules N x0) fun n0 => br (!decide (n0 = 0)) (some ([], n0)) (S_qEncode_6 N x0 N [] 0 fun l1 => bnd2 (s_rEncode N l1) fun l2 n3 => some (l2, n3))
noncomputable def cx_qEncode (N : Nat) : Cx := { T := T, isPure := tabP [⟨32, e_qCheckRules (s_qCheckRules N)⟩, ⟨98, e_qBytes (s_qBytes N N)⟩, ⟨42, e_rEncode (s_rEncode N)⟩], pureK := fun g ds K => tabK [⟨32, e_qCheckRules (s_qCheckRules N)⟩, ⟨98, e_qBytes (s_qBytes N N)⟩, ⟨42, e_rEncode (s_rEncode N)⟩] g ds K, memK := fun g dst ds m K => tabMK [] g dst ds m K, meth := tabM [], keep := fun r => match r with | 6 => [0, 5, 6] | _ => [], keepX := fun r => match r with | 6 => [5] | _ => [], loopT := fun r ds m K => match r with | 6 => l_qEncode_6 N ds m K | _ => none, jumps := 9 }
theorem F_qEncode_6_ok {R : Type} (N : Nat) (vs0 : List V) (vs1 : List V) (n2 : Int) (L : List D → Mem → Option R) (K : Ex → List D → Mem → Option R) :
    roundK (fun st K => codeK (cx_qEncode N) (loopN Try.f69 0) st K) 40 [0, 5, 6] [5] L [(.v (.sl 48 vs0) .no), (.v (.sl 62 vs1) (.own (.slot 5) 62)), (.v (.int .i64 n2) .no)] [[]] K = F_qEncode_6 N vs0 (fun vs1 n2 => L [(.v (.sl 48 vs0) .no), (.v (.sl 62 vs1) (.own (.slot 5) 62)), (.v (.int .i64 n2) .no)] [[]]) (fun a0 => K (.exit 0) [(.v (.sl 62 a0) (.own (.slot 5) 62))] [[]]) vs1 n2 := by
  kernel_rfl
theorem S_qEncode_6_ok {R : Type} (N : Nat) (vs0 : List V) (K : Ex → List D → Mem → Option R) : ∀ (t : Nat) (vs1 : List V) (n2 : Int),
    loopK (fun st K => codeK (cx_qEncode N) (loopN Try.f69 0) st K) 40 [0, 5, 6] [5] t [(.v (.sl 48 vs0) .no), (.v (.sl 62 vs1) (.own (.slot 5) 62)), (.v (.int .i64 n2) .no)] [[]] K = S_qEncode_6 N vs0 t vs1 n2 (fun a0 => K (.exit 0) [(.v (.sl 62 a0) (.own (.slot 5) 62))] [[]])
  | 0, vs1, n2 => rfl
  | t + 1, vs1, n2 => (F_qEncode_6_ok N vs0 vs1 n2 _ K).trans (congrArg (fun L => F_qEncode_6 N vs0 L (fun a0 => K (.exit 0) [(.v (.sl 62 a0) (.own (.slot 5) 62))] [[]]) vs1 n2) (funext fun vs1 => funext fun n2 => S_qEncode_6_ok N vs0 K t vs1 n2))
theorem s_qEncode_ok (N : Nat) (x0 : List V) : bodyK (cx_qEncode N) Try.f69 [.v (.sl 48 x0) .no] [] r_qEncode = s_qEncode N x0 := by
  kernel_rfl
theorem go_qEncode : Goes Try.prog 69 := goes_of Try.func69 (by kernel_rfl) (c := bodyOf Try.f69) (by kernel_rfl)
theorem eo_qEncode (s : List V → Option (List UInt8 × Int)) (hs : ∀ (x0 : List V) (r0 : List UInt8) (r1 : Int), s x0 = some (r0, r1) → PureRet Try.prog T 69 [.v (.sl 48 x0) .no] [.v (.bytes r0) .no, .v (.int .i64 r1) .no]) : EntOK Try.prog T ⟨69, e_qEncode s⟩ := by
  refine ⟨go_qEncode, fun R ds K r h => ?_, fun R ds K => ?_⟩
  · simp only [e_qEncode] at h
    split at h
    · obtain ⟨r0, r1, h1, h2⟩ := bnd2_some h
      exact ⟨_, h2, hs _ _ _ h1⟩
    · cases h
  · simp only [e_qEncode]
    split
    · rw [bnd2_b]; rfl
    · rfl
theorem co_qEncode (N : Nat) : CxOK Try.prog (cx_qEncode N) :=
  cxOK_of2 (es := [⟨32, e_qCheckRules (s_qCheckRules N)⟩, ⟨98, e_qBytes (s_qBytes N N)⟩, ⟨42, e_rEncode (s_rEncode N)⟩]) (me := []) (ms := []) T_ok ⟨eo_qCheckRules _ (p_qCheckRules N), eo_qBytes _ (p_qBytes N N), eo_rEncode _ (p_rEncode N), trivial⟩ trivial trivial rfl (fun _ _ _ _ => rfl) (fun _ _ _ _ _ _ => rfl) rfl
theorem lk_qEncode_6 (N : Nat) : LoopOK (cx_qEncode N) 40 (loopN Try.f69 0) := by
  refine loopOK_of (rid := 6) (by kernel_rfl) rfl rfl fun R ds m K r h => ?_
  have h : l_qEncode_6 N ds m K = some r := h
  unfold l_qEncode_6 at h
  split at h
  · exact ⟨N, Eq.trans (S_qEncode_6_ok ..) h⟩
  · cases h
theorem lo_qEncode (N : Nat) : LoopsOK (cx_qEncode N) Try.f69.ntmps (bodyOf Try.f69) :=
  loopsOK_of (k := 1) (by kernel_rfl) ⟨trivial, lk_qEncode_6 N⟩
theorem p_qEncode (N : Nat) (x0 : List V) (r0 : List UInt8) (r1 : Int) (h : s_qEncode N x0 = some (r0, r1)) : PureRet Try.prog T 69 [.v (.sl 48 x0) .no] [.v (.bytes r0) .no, .v (.int .i64 r1) .no] :=
  pure_of (cx := cx_qEncode N) (by kernel_rfl) (co_qEncode N) Try.func69 (by kernel_rfl) (by kernel_rfl) (lo_qEncode N) rfl rfl rfl (rf := r_qEncode) ((s_qEncode_ok N x0).trans h) (fun rs' m h => by
    unfold r_qEncode at h
    split at h
    · cases h; exact ⟨rfl, rfl⟩
    · cases h)
noncomputable def e_qSameCond {R : Type} (s : Int → Int → List V → Int → Int → List V → Option (Bool)) (ds : List D) (K : List D → Option R) : Option R :=
  match ds with
  | [.agg [.v (.int .i64 x0) .no, .v (.int .i64 x1) .no, .v (.sl 46 x2) .no], .agg [.v (.int .i64 x3) .no, .v (.int .i64 x4) .no, .v (.sl 46 x5) .no]] => bnd1 (s x0 x1 x2 x3 x4 x5) fun r0 => K [.v (.bool r0) .no]
  | _ => none
noncomputable def r_qSameCond (rs : List D) (_ : Mem) : Option (Bool) :=
  match rs with
  | [.v (.bool r0) _] => some (r0)
  | _ => none
noncomputable def F_qSameCond_4 {R : Type} (N : Nat) (f : Int → Int → List V → Int → Int → List V → Option (Bool)) (n1 : Int) (n2 : Int) (vs3 : List V) (n4 : Int) (n5 : Int) (vs6 : List V) (Lq : Int → Option R) (K0 : Bool → Option R) (K1 : Option R) (n0 : Int) : Option R :=
  br (decide (n0 < (↑vs3.length : Int)))
  (br (decide (0 ≤ n0) && decide (n0 < (↑vs3.length : Int)))
    (at? vs3 n0.toNat fun x0 =>
      x0.unAgg fun l1 =>
        unCons l1 fun x2 l3 =>
          V.unInt IntKind.i64 x2 fun n4 =>
            unCons l3 fun x5 l6 =>
              V.unInt IntKind.i64 x5 fun n7 =>
                unCons l6 fun x8 l9 =>
                  V.unSl 46 x8 fun l10 =>
                    unNil l9
                      (br (decide (0 ≤ n0) && decide (n0 < (↑vs6.length : Int)))
                        (at? vs6 n0.toNat fun x11 =>
                          x11.unAgg fun l12 =>
                            unCons l12 fun x13 l14 =>
                              V.unInt IntKind.i64 x13 fun n15 =>
                                unCons l14 fun x16 l17 =>
                                  V.unInt IntKind.i64 x16 fun n18 => unCons l17 fun x19 l20 => V.unSl 46 x19 fun l21 => unNil l20 (bnd1 (f n4 n7 l10 n15 n18 l21) fun b22 => br (!b22) (K0 false) (Lq (IntKind.i64.wrap (n0 + 1)))))
                        none))
    none)
  K1
noncomputable def S_qSameCond_4 {R : Type} (N : Nat) (f : Int → Int → List V → Int → Int → List V → Option (Bool)) (n1 : Int) (n2 : Int) (vs3 : List V) (n4 : Int) (n5 : Int) (vs6 : List V) : Nat → Int → (Bool → Option R) → (Option R) → Option R
  | 0, _, _, _ => none
  | t + 1, n0, K0, K1 => F_qSameCond_4 N f n1 n2 vs3 n4 n5 vs6 (fun n0 => S_qSameCond_4 N f n1 n2 vs3 n4 n5 vs6 t n0 K0 K1) K0 K1 n0
noncomputable def l_qSameCond_4 {R : Type} (N : Nat) (f : Int → Int → List V → Int → Int → List V → Option (Bool)) (ds : List D) (m : Mem) (K : Ex → List D → Mem → Option R) : Option R :=
  match ds, m with
  | [(.ptr 0 2 0), (.ptr 0 3 0), (.v (.int .i64 n0) .no)], [[(2, ⟨46, [(.v (.int .i64 n1) .no), (.v (.int .i64 n2) .no), (.v (.sl 46 vs3) .no)]⟩), (3, ⟨46, [(.v (.int .i64 n4) .no), (.v (.int .i64 n5) .no), (.v (.sl 46 vs6) .no)]⟩)]] => S_qSameCond_4 N f n1 n2 vs3 n4 n5 vs6 N n0 (fun a0 => K .ret [(.ptr 0 2 0), (.ptr 0 3 0), (.v (.bool a0) .no)] [[(2, ⟨46, [(.v (.int .i64 n1) .no), (.v (.int .i64 n2) .no), (.v (.sl 46 vs3) .no)]⟩), (3, ⟨46, [(.v (.int .i64 n4) .no), (.v (.int .i64 n5) .no), (.v (.sl 46 vs6) .no)]⟩)]]) (K (.exit 0) [(.ptr 0 2 0), (.ptr 0 3 0), .any] [[(2, ⟨46, [(.v (.int .i64 n1) .no), (.v (.int .i64 n2) .no), (.v (.sl 46 vs3) .no)]⟩), (3, ⟨46, [(.v (.int .i64 n4) .no), (.v (.int .i64 n5) .no), (.v (.sl 46 vs6) .no)]⟩)]])
  | _, _ => none
noncomputable def B_qSameCond (N : Nat) (f : Int → Int → List V → Int → Int → List V → Option (Bool)) (x0 : Int) (x1 : Int) (x2 : List V) (x3 : Int) (x4 : Int) (x5 : List V) : Option (Bool) :=
  br (!decide (x0 = x3)) (some false) (br (!decide (x1 = x4)) (some false) (br (!decide ((↑x2.length : Int) = (↑x5.length : Int))) (some false) (S_qSameCond_4 N f x0 x1 x2 x3 x4 x5 N 0 (fun b0 => some b0) (some true))))
noncomputable def s_qSameCond (N : Nat) : Nat → Int → Int → List V → Int → Int → List V → Option (Bool)
  | 0, _, _, _, _, _, _ => none
  | n + 1, x0, x1, x2, x3, x4, x5 => B_qSameCond N (s_qSameCond N n) x0 x1 x2 x3 x4 x5
noncomputable def cx_qSameCond (N : Nat) (f : Int → Int → List V → Int → Int → List V → Option (Bool)) : Cx := { T := T, isPure := tabP [⟨45, e_qSameCond f⟩], pureK := fun g ds K => tabK [⟨45, e_qSameCond f⟩] g ds K, memK := fun g dst ds m K => tabMK [] g dst ds m K, meth := tabM [], keep := fun r => match r with | 4 => [2, 3, 5] | _ => [], keepX := fun r => match r with | 4 => [2, 3, 4] | _ => [], loopT := fun r ds m K => match r with | 4 => l_qSameCond_4 N f ds m K | _ => none, jumps := 9 }
theorem F_qSameCond_4_ok {R : Type} (N : Nat) (f : Int → Int → List V → Int → Int → List V → Option (Bool)) (n1 : Int) (n2 : Int) (vs3 : List V) (n4 : Int) (n5 : Int) (vs6 : List V) (n0 : Int) (L : List D → Mem → Option R) (K : Ex → List D → Mem → Option R) :
    roundK (fun st K => codeK (cx_qSameCond N f) (loopN Try.f45 0) st K) 46 [2, 3, 5] [2, 3, 4] L [(.ptr 0 2 0), (.ptr 0 3 0), (.v (.int .i64 n0) .no)] [[(2, ⟨46, [(.v (.int .i64 n1) .no), (.v (.int .i64 n2) .no), (.v (.sl 46 vs3) .no)]⟩), (3, ⟨46, [(.v (.int .i64 n4) .no), (.v (.int .i64 n5) .no), (.v (.sl 46 vs6) .no)]⟩)]] K = F_qSameCond_4 N f n1 n2 vs3 n4 n5 vs6 (fun n0 => L [(.ptr 0 2 0), (.ptr 0 3 0), (.v (.int .i64 n0) .no)] [[(2, ⟨46, [(.v (.int .i64 n1) .no), (.v (.int .i64 n2) .no), (.v (.sl 46 vs3) .no)]⟩), (3, ⟨46, [(.v (.int .i64 n4) .no), (.v (.int .i64 n5) .no), (.v (.sl 46 vs6) .no)]⟩)]]) (fun a0 => K .ret [(.ptr 0 2 0), (.ptr 0 3 0), (.v (.bool a0) .no)] [[(2, ⟨46, [(.v (.int .i64 n1) .no), (.v (.int .i64 n2) .no), (.v (.sl 46 vs3) .no)]⟩), (3, ⟨46, [(.v (.int .i64 n4) .no), (.v (.int .i64 n5) .no), (.v (.sl 46 vs6) .no)]⟩)]]) (K (.exit 0) [(.ptr 0 2 0), (.ptr 0 3 0), .any] [[(2, ⟨46, [(.v (.int .i64 n1) .no), (.v (.int .i64 n2) .no), (.v (.sl 46 vs3) .no)]⟩), (3, ⟨46, [(.v (.int .i64 n4) .no), (.v (.int .i64 n5) .no), (.v (.sl 46 vs6) .no)]⟩)]]) n0 := by
  kernel_rfl
theorem S_qSameCond_4_ok {R : Type} (N : Nat) (f : Int → Int → List V → Int → Int → List V → Option (Bool)) (n1 : Int) (n2 : Int) (vs3 : List V) (n4 : Int) (n5 : Int) (vs6 : List V) (K : Ex → List D → Mem → Option R) : ∀ (t : Nat) (n0 : Int),
    loopK (fun st K => codeK (cx_qSameCond N f) (loopN Try.f45 0) st K) 46 [2, 3, 5] [2, 3, 4] t [(.ptr 0 2 0), (.ptr 0 3 0), (.v (.int .i64 n0) .no)] [[(2, ⟨46, [(.v (.int .i64 n1) .no), (.v (.int .i64 n2) .no), (.v (.sl 46 vs3) .no)]⟩), (3, ⟨46, [(.v (.int .i64 n4) .no), (.v (.int .i64 n5) .no), (.v (.sl 46 vs6) .no)]⟩)]] K = S_qSameCond_4 N f n1 n2 vs3 n4 n5 vs6 t n0 (fun a0 => K .ret [(.ptr 0 2 0), (.ptr 0 3 0), (.v (.bool a0) .no)] [[(2, ⟨46, [(.v (.int .i64 n1) .no), (.v (.int .i64 n2) .no), (.v (.sl 46 vs3) .no)]⟩), (3, ⟨46, [(.v (.int .i64 n4) .no), (.v (.int .i64 n5) .no), (.v (.sl 46 vs6) .no)]⟩)]]) (K (.exit 0) [(.ptr 0 2 0), (.ptr 0 3 0), .any] [[(2, ⟨46, [(.v (.int .i64 n1) .no), (.v (.int .i64 n2) .no), (.v (.sl 46 vs3) .no)]⟩), (3, ⟨46, [(.v (.int .i64 n4) .no), (.v (.int .i64 n5) .no), (.v (.sl 46 vs6) .no)]⟩)]])
  | 0, n0 => rfl
  | t + 1, n0 => (F_qSameCond_4_ok N f n1 n2 vs3 n4 n5 vs6 n0 _ K).trans (congrArg (fun L => F_qSameCond_4 N f n1 n2 vs3 n4 n5 vs6 L (fun a0 => K .ret [(.ptr 0 2 0), (.ptr 0 3 0), (.v (.bool a0) .no)] [[(2, ⟨46, [(.v (.int .i64 n1) .no), (.v (.int .i64 n2) .no), (.v (.sl 46 vs3) .no)]⟩), (3, ⟨46, [(.v (.int .i64 n4) .no), (.v (.int .i64 n5) .no), (.v (.sl 46 vs6) .no)]⟩)]]) (K (.exit 0) [(.ptr 0 2 0), (.ptr 0 3 0), .any] [[(2, ⟨46, [(.v (.int .i64 n1) .no), (.v (.int .i64 n2) .no), (.v (.sl 46 vs3) .no)]⟩), (3, ⟨46, [(.v (.int .i64 n4) .no), (.v (.int .i64 n5) .no), (.v (.sl 46 vs6) .no)]⟩)]]) n0) (funext fun n0 => S_qSameCond_4_ok N f n1 n2 vs3 n4 n5 vs6 K t n0))
theorem B_qSameCond_ok (N : Nat) (f : Int → Int → List V → Int → Int → List V → Option (Bool)) (x0 : Int) (x1 : Int) (x2 : List V) (x3 : Int) (x4 : Int) (x5 : List V) : bodyK (cx_qSameCond N f) Try.f45 [.agg [.v (.int .i64 x0) .no, .v (.int .i64 x1) .no, .v (.sl 46 x2) .no], .agg [.v (.int .i64 x3) .no, .v (.int .i64 x4) .no, .v (.sl 46 x5) .no]] [] r_qSameCond = B_qSameCond N f x0 x1 x2 x3 x4 x5 := by
  kernel_rfl
theorem go_qSameCond : Goes Try.prog 45 := goes_of Try.func45 (by kernel_rfl) (c := bodyOf Try.f45) (by kernel_rfl)
theorem eo_qSameCond (s : Int → Int → List V → Int → Int → List V → Option (Bool)) (hs : ∀ (x0 : Int) (x1 : Int) (x2 : List V) (x3 : Int) (x4 : Int) (x5 : List V) (r0 : Bool), s x0 x1 x2 x3 x4 x5 = some r0 → PureRet Try.prog T 45 [.agg [.v (.int .i64 x0) .no, .v (.int .i64 x1) .no, .v (.sl 46 x2) .no], .agg [.v (.int .i64 x3) .no, .v (.int .i64 x4) .no, .v (.sl 46 x5) .no]] [.v (.bool r0) .no]) : EntOK Try.prog T ⟨45, e_qSameCond s⟩ := by
  refine ⟨go_qSameCond, fun R ds K r h => ?_, fun R ds K => ?_⟩
  · simp only [e_qSameCond] at h
    split at h
    · obtain ⟨r0, h1, h2⟩ := bnd1_some h
      exact ⟨_, h2, hs _ _ _ _ _ _ _ h1⟩
    · cases h
  · simp only [e_qSameCond]
    split
    · rw [bnd1_b]; rfl
    · rfl
theorem co_qSameCond (N : Nat) (f : Int → Int → List V → Int → Int → List V → Option (Bool)) (hf : ∀ (x0 : Int) (x1 : Int) (x2 : List V) (x3 : Int) (x4 : Int) (x5 : List V) (r0 : Bool), f x0 x1 x2 x3 x4 x5 = some r0 → PureRet Try.prog T 45 [.agg [.v (.int .i64 x0) .no, .v (.int .i64 x1) .no, .v (.sl 46 x2) .no], .agg [.v (.int .i64 x3) .no, .v (.int .i64 x4) .no, .v (.sl 46 x5) .no]] [.v (.bool r0) .no]) : CxOK Try.prog (cx_qSameCond N f) :=
  cxOK_of2 (es := [⟨45, e_qSameCond f⟩]) (me := []) (ms := []) T_ok ⟨eo_qSameCond f hf, trivial⟩ trivial trivial rfl (fun _ _ _ _ => rfl) (fun _ _ _ _ _ _ => rfl) rfl
theorem lk_qSameCond_4 (N : Nat) (f : Int → Int → List V → Int → Int → List V → Option (Bool)) : LoopOK (cx_qSameCond N f) 46 (loopN Try.f45 0) := by
  refine loopOK_of (rid := 4) (by kernel_rfl) rfl rfl fun R ds m K r h => ?_
  have h : l_qSameCond_4 N f ds m K = some r := h
  unfold l_qSameCond_4 at h
  split at h
  · exact ⟨N, Eq.trans (S_qSameCond_4_ok ..) h⟩
  · cases h
theorem lo_qSameCond (N : Nat) (f : Int → Int → List V → Int → Int → List V → Option (Bool)) : LoopsOK (cx_qSameCond N f) Try.f45.ntmps (bodyOf Try.f45) :=
  loopsOK_of (k := 1) (by kernel_rfl) ⟨trivial, lk_qSameCond_4 N f⟩
theorem p_qSameCond (N : Nat) : ∀ (M : Nat) (x0 : Int) (x1 : Int) (x2 : List V) (x3 : Int) (x4 : Int) (x5 : List V) (r0 : Bool), s_qSameCond N M x0 x1 x2 x3 x4 x5 = some r0 → PureRet Try.prog T 45 [.agg [.v (.int .i64 x0) .no, .v (.int .i64 x1) .no, .v (.sl 46 x2) .no], .agg [.v (.int .i64 x3) .no, .v (.int .i64 x4) .no, .v (.sl 46 x5) .no]] [.v (.bool r0) .no]
  | 0, _, _, _, _, _, _, _, h => by cases h
  | M + 1, x0, x1, x2, x3, x4, x5, r0, h => pure_of (cx := cx_qSameCond N (s_qSameCond N M)) (by kernel_rfl) (co_qSameCond N (s_qSameCond N M) (p_qSameCond N M)) Try.func45 (by kernel_rfl) (by kernel_rfl) (lo_qSameCond N (s_qSameCond N M)) rfl rfl rfl (rf := r_qSameCond) ((B_qSameCond_ok N (s_qSameCond N M) x0 x1 x2 x3 x4 x5).trans h) (fun rs' m h => by
    unfold r_qSameCond at h
    split at h
    · cases h; exact ⟨rfl, rfl⟩
    · cases h)
noncomputable def e_qSame {R : Type} (s : List V → List V → Option (Bool)) (ds : List D) (K : List D → Option R) : Option R :=
  match ds with
  | [.v (.sl 48 x0) .no, .v (.sl 48 x1) .no] => bnd1 (s x0 x1) fun r0 => K [.v (.bool r0) .no]
  | _ => none
noncomputable def r_qSame (rs : List D) (_ : Mem) : Option (Bool) :=
  match rs with
  | [.v (.bool r0) _] => some (r0)
  | _ => none
noncomputable def F_qSame_4 {R : Type} (N : Nat) (vs0 : List V) (vs1 : List V) (Lq : Int → Option R) (K0 : Bool → Option R) (K1 : Option R) (n2 : Int) : Option R :=
  br (decide (n2 < (↑vs0.length : Int)))
  (br (decide (0 ≤ n2) && decide (n2 < (↑vs0.length : Int)))
    (at? vs0 n2.toNat fun x0 =>
      x0.unAgg fun l1 =>
        unCons l1 fun x2 l3 =>
          V.unInt IntKind.i64 x2 fun n4 =>
            unCons l3 fun x5 l6 =>
              V.unInt IntKind.i64 x5 fun n7 =>
                unCons l6 fun x8 l9 =>
                  V.unInt IntKind.i64 x8 fun n10 =>
                    unCons l9 fun x11 l12 =>
                      V.unSl 46 x11 fun l13 =>
                        unNil l12
                          (br (decide (0 ≤ n2) && decide (n2 < (↑vs1.length : Int)))
                            (at? vs1 n2.toNat fun x14 =>
                              x14.unAgg fun l15 =>
                                unCons l15 fun x16 l17 =>
                                  V.unInt IntKind.i64 x16 fun n18 =>
                                    unCons l17 fun x19 l20 =>
                                      V.unInt IntKind.i64 x19 fun n21 =>
                                        unCons l20 fun x22 l23 =>
                                          V.unInt IntKind.i64 x22 fun n24 =>
                                            unCons l23 fun x25 l26 =>
                                              V.unSl 46 x25 fun l27 =>
                                                unNil l26
                                                  (br (!decide (n4 = n18)) (K0 false)
                                                    (br (decide (0 ≤ n2) && decide (n2 < (↑vs0.length : Int)))
                                                      (at? vs0 n2.toNat fun x28 =>
                                                        x28.unAgg fun l29 =>
                                                          unCons l29 fun x30 l31 =>
                                                            V.unInt IntKind.i64 x30 fun n32 =>
                                                              unCons l31 fun x33 l34 =>
                                                                V.unInt IntKind.i64 x33 fun n35 =>
                                                                  unCons l34 fun x36 l37 =>
                                                                    V.unInt IntKind.i64 x36 fun n38 =>
                                                                      unCons l37 fun x39 l40 =>
                                                                        V.unSl 46 x39 fun l41 =>
                                                                          unNil l40
                                                                            (br (decide (0 ≤ n2) && decide (n2 < (↑vs1.length : Int)))
                                                                              (at? vs1 n2.toNat fun x42 =>
                                                                                x42.unAgg fun l43 =>
                                                                                  unCons l43 fun x44 l45 =>
                                                                                    V.unInt IntKind.i64 x44 fun n46 =>
                                                                                      unCons l45 fun x47 l48 =>
                                                                                        V.unInt IntKind.i64 x47 fun n49 =>
                                                                                          unCons l48 fun x50 l51 =>
                                                                                            V.unInt IntKind.i64 x50 fun n52 =>
                                                                                              unCons l51 fun x53 l54 =>
                                                                                                V.unSl 46 x53 fun l55 =>
                                                                                                  unNil l54 (bnd1 (s_qSameCond N N n35 n38 l41 n49 n52 l55) fun b56 => br (!b56) (K0 false) (Lq (IntKind.i64.wrap (n2 + 1)))))
                                                                              none))
                                                      none)))
                            none))
    none)
  K1
noncomputable def S_qSame_4 {R : Type} (N : Nat) (vs0 : List V) (vs1 : List V) : Nat → Int → (Bool → Option R) → (Option R) → Option R
  | 0, _, _, _ => none
  | t + 1, n2, K0, K1 => F_qSame_4 N vs0 vs1 (fun n2 => S_qSame_4 N vs0 vs1 t n2 K0 K1) K0 K1 n2
noncomputable def l_qSame_4 {R : Type} (N : Nat) (ds : List D) (m : Mem) (K : Ex → List D → Mem → Option R) : Option R :=
  match ds, m with
  | [(.v (.sl 48 vs0) .no), (.v (.sl 48 vs1) .no), (.v (.int .i64 n2) .no)], [[]] => S_qSame_4 N vs0 vs1 N n2 (fun a0 => K .ret [(.v (.bool a0) .no)] [[]]) (K (.exit 0) [.any] [[]])
  | _, _ => none
noncomputable def s_qSame (N : Nat) (x0 : List V) (x1 : List V) : Option (Bool) :=
  br (!decide ((↑x0.length : Int) = (↑x1.length : Int))) (some false) (S_qSame_4 N x0 x1 N 0 (fun b0 => some b0) (some true))
noncomputable def cx_qSame (N : Nat) : Cx := { T := T, isPure := tabP [⟨45, e_qSameCond (s_qSameCond N N)⟩], pureK := fun g ds K => tabK [⟨45, e_qSameCond (s_qSameCond N N)⟩] g ds K, memK := fun g dst ds m K => tabMK [] g dst ds m K, meth := tabM [], keep := fun r => match r with | 4 => [0, 1, 5] | _ => [], keepX := fun r => match r with | 4 => [4] | _ => [], loopT := fun r ds m K => match r with | 4 => l_qSame_4 N ds m K | _ => none, jumps := 9 }
theorem F_qSame_4_ok {R : Type} (N : Nat) (vs0 : List V) (vs1 : List V) (n2 : Int) (L : List D → Mem → Option R) (K : Ex → List D → Mem → Option R) :
    roundK (fun st K => codeK (cx_qSame N) (loopN Try.f21 0) st K) 42 [0, 1, 5] [4] L [(.v (.sl 48 vs0) .no), (.v (.sl 48 vs1) .no), (.v (.int .i64 n2) .no)] [[]] K = F_qSame_4 N vs0 vs1 (fun n2 => L [(.v (.sl 48 vs0) .no), (.v (.sl 48 vs1) .no), (.v (.int .i64 n2) .no)] [[]]) (fun a0 => K .ret [(.v (.bool a0) .no)] [[]]) (K (.exit 0) [.any] [[]]) n2 := by
  kernel_rfl
theorem S_qSame_4_ok {R : Type} (N : Nat) (vs0 : List V) (vs1 : List V) (K : Ex → List D → Mem → Option R) : ∀ (t : Nat) (n2 : Int),
    loopK (fun st K => codeK (cx_qSame N) (loopN Try.f21 0) st K) 42 [0, 1, 5] [4] t [(.v (.sl 48 vs0) .no), (.v (.sl 48 vs1) .no), (.v (.int .i64 n2) .no)] [[]] K = S_qSame_4 N vs0 vs1 t n2 (fun a0 => K .ret [(.v (.bool a0) .no)] [[]]) (K (.exit 0) [.any] [[]])
  | 0, n2 => rfl
  | t + 1, n2 => (F_qSame_4_ok N vs0 vs1 n2 _ K).trans (congrArg (fun L => F_qSame_4 N vs0 vs1 L (fun a0 => K .ret [(.v (.bool a0) .no)] [[]]) (K (.exit 0) [.any] [[]]) n2) (funext fun n2 => S_qSame_4_ok N vs0 vs1 K t n2))
theorem s_qSame_ok (N : Nat) (x0 : List V) (x1 : List V) : bodyK (cx_qSame N) Try.f21 [.v (.sl 48 x0) .no, .v (.sl 48 x1) .no] [] r_qSame = s_qSame N x0 x1 := by
  kernel_rfl
theorem go_qSame : Goes Try.prog 21 := goes_of Try.func21 (by kernel_rfl) (c := bodyOf Try.f21) (by kernel_rfl)
theorem eo_qSame (s : List V → List V → Option (Bool)) (hs : ∀ (x0 : List V) (x1 : List V) (r0 : Bool), s x0 x1 = some r0 → PureRet Try.prog T 21 [.v (.sl 48 x0) .no, .v (.sl 48 x1) .no] [.v (.bool r0) .no]) : EntOK Try.prog T ⟨21, e_qSame s⟩ := by
  refine ⟨go_qSame, fun R ds K r h => ?_, fun R ds K => ?_⟩
  · simp only [e_qSame] at h
    split at h
    · obtain ⟨r0, h1, h2⟩ := bnd1_some h
      exact ⟨_, h2, hs _ _ _ h1⟩
    · cases h
  · simp only [e_qSame]
    split
    · rw [bnd1_b]; rfl
    · rfl
theorem co_qSame (N : Nat) : CxOK Try.prog (cx_qSame N) :=
  cxOK_of2 (es := [⟨45, e_qSameCond (s_qSameCond N N)⟩]) (me := []) (ms := []) T_ok ⟨eo_qSameCond _ (p_qSameCond N N), trivial⟩ trivial trivial rfl (fun _ _ _ _ => rfl) (fun _ _ _ _ _ _ => rfl) rfl
theorem lk_qSame_4 (N : Nat) : LoopOK (cx_qSame N) 42 (loopN Try.f21 0) := by
  refine loopOK_of (rid := 4) (by kernel_rfl) rfl rfl fun R ds m K r h => ?_
  have h : l_qSame_4 N ds m K = some r := h
  unfold l_qSame_4 at h
  split at h
  · exact ⟨N, Eq.trans (S_qSame_4_ok ..) h⟩
  · cases h
theorem lo_qSame (N : Nat) : LoopsOK (cx_qSame N) Try.f21.ntmps (bodyOf Try.f21) :=
  loopsOK_of (k := 1) (by kernel_rfl) ⟨trivial, lk_qSame_4 N⟩
theorem p_qSame (N : Nat) (x0 : List V) (x1 : List V) (r0 : Bool) (h : s_qSame N x0 x1 = some r0) : PureRet Try.prog T 21 [.v (.sl 48 x0) .no, .v (.sl 48 x1) .no] [.v (.bool r0) .no] :=
  pure_of (cx := cx_qSame N) (by kernel_rfl) (co_qSame N) Try.func21 (by kernel_rfl) (by kernel_rfl) (lo_qSame N) rfl rfl rfl (rf := r_qSame) ((s_qSame_ok N x0 x1).trans h) (fun rs' m h => by
    unfold r_qSame at h
    split at h
    · cases h; exact ⟨rfl, rfl⟩
    · cases h)
noncomputable def e_oCompare {R : Type} (s : List UInt8 → List UInt8 → Option (Int)) (ds : List D) (K : List D → Option R) : Option R :=
  match ds with
  | [.v (.bytes x0) .no, .v (.bytes x1) .no] => bnd1 (s x0 x1) fun r0 => K [.v (.int .i64 r0) .no]
  | _ => none
noncomputable def r_oCompare (rs : List D) (_ : Mem) : Option (Int) :=
  match rs with
  | [.v (.int .i64 r0) _] => some (r0)
  | _ => none
noncomputable def F_oCompare_2 {R : Type} (N : Nat) (l0 : List UInt8) (l1 : List UInt8) (Lq : Int → Option R) (K0 : Int → Option R) (K1 : Option R) (n2 : Int) : Option R :=
  br (decide (n2 < (↑l0.length : Int)))
  (br (decide (n2 < (↑l1.length : Int)))
    (br (decide (0 ≤ n2) && decide (n2 < (↑l0.length : Int)))
      (at? l0 n2.toNat fun u0 =>
        br (decide (0 ≤ n2) && decide (n2 < (↑l1.length : Int)))
          (at? l1 n2.toNat fun u1 =>
            br (decide ((↑u0.toNat : Int) < (↑u1.toNat : Int))) (K0 (-1))
              (br (decide (0 ≤ n2) && decide (n2 < (↑l0.length : Int)))
                (at? l0 n2.toNat fun u2 => br (decide (0 ≤ n2) && decide (n2 < (↑l1.length : Int))) (at? l1 n2.toNat fun u3 => br (decide ((↑u3.toNat : Int) < (↑u2.toNat : Int))) (K0 1) (Lq (IntKind.i64.wrap (n2 + 1)))) none) none))
          none)
      none)
    K1)
  K1
noncomputable def S_oCompare_2 {R : Type} (N : Nat) (l0 : List UInt8) (l1 : List UInt8) : Nat → Int → (Int → Option R) → (Option R) → Option R
  | 0, _, _, _ => none
  | t + 1, n2, K0, K1 => F_oCompare_2 N l0 l1 (fun n2 => S_oCompare_2 N l0 l1 t n2 K0 K1) K0 K1 n2
noncomputable def l_oCompare_2 {R : Type} (N : Nat) (ds : List D) (m : Mem) (K : Ex → List D → Mem → Option R) : Option R :=
  match ds, m with
  | [(.v (.bytes l0) .no), (.v (.bytes l1) .no), (.v (.int .i64 n2) .no)], [[]] => S_oCompare_2 N l0 l1 N n2 (fun a2 => K .ret [(.v (.bytes l0) .no), (.v (.bytes l1) .no), (.v (.int .i64 a2) .no)] [[]]) (K (.exit 0) [(.v (.bytes l0) .no), (.v (.bytes l1) .no), .any] [[]])
  | _, _ => none
noncomputable def s_oCompare (N : Nat) (x0 : List UInt8) (x1 : List UInt8) : Option (Int) :=
  S_oCompare_2 N x0 x1 N 0 (fun n0 => some n0) (br (decide ((↑x0.length : Int) < (↑x1.length : Int))) (some (-1)) (br (decide ((↑x1.length : Int) < (↑x0.length : Int))) (some 1) (some 0)))
noncomputable def cx_oCompare (N : Nat) : Cx := { T := T, isPure := tabP [], pureK := fun g ds K => tabK [] g ds K, memK := fun g dst ds m K => tabMK [] g dst ds m K, meth := tabM [], keep := fun r => match r with | 2 => [0, 1, 5] | _ => [], keepX := fun r => match r with | 2 => [0, 1, 4] | _ => [], loopT := fun r ds m K => match r with | 2 => l_oCompare_2 N ds m K | _ => none, jumps := 9 }
theorem F_oCompare_2_ok {R : Type} (N : Nat) (l0 : List UInt8) (l1 : List UInt8) (n2 : Int) (L : List D → Mem → Option R) (K : Ex → List D → Mem → Option R) :
    roundK (fun st K => codeK (cx_oCompare N) (loopN Try.f44 0) st K) 46 [0, 1, 5] [0, 1, 4] L [(.v (.bytes l0) .no), (.v (.bytes l1) .no), (.v (.int .i64 n2) .no)] [[]] K = F_oCompare_2 N l0 l1 (fun n2 => L [(.v (.bytes l0) .no), (.v (.bytes l1) .no), (.v (.int .i64 n2) .no)] [[]]) (fun a2 => K .ret [(.v (.bytes l0) .no), (.v (.bytes l1) .no), (.v (.int .i64 a2) .no)] [[]]) (K (.exit 0) [(.v (.bytes l0) .no), (.v (.bytes l1) .no), .any] [[]]) n2 := by
  kernel_rfl
theorem S_oCompare_2_ok {R : Type} (N : Nat) (l0 : List UInt8) (l1 : List UInt8) (K : Ex → List D → Mem → Option R) : ∀ (t : Nat) (n2 : Int),
    loopK (fun st K => codeK (cx_oCompare N) (loopN Try.f44 0) st K) 46 [0, 1, 5] [0, 1, 4] t [(.v (.bytes l0) .no), (.v (.bytes l1) .no), (.v (.int .i64 n2) .no)] [[]] K = S_oCompare_2 N l0 l1 t n2 (fun a2 => K .ret [(.v (.bytes l0) .no), (.v (.bytes l1) .no), (.v (.int .i64 a2) .no)] [[]]) (K (.exit 0) [(.v (.bytes l0) .no), (.v (.bytes l1) .no), .any] [[]])
  | 0, n2 => rfl
  | t + 1, n2 => (F_oCompare_2_ok N l0 l1 n2 _ K).trans (congrArg (fun L => F_oCompare_2 N l0 l1 L (fun a2 => K .ret [(.v (.bytes l0) .no), (.v (.bytes l1) .no), (.v (.int .i64 a2) .no)] [[]]) (K (.exit 0) [(.v (.bytes l0) .no), (.v (.bytes l1) .no), .any] [[]]) n2) (funext fun n2 => S_oCompare_2_ok N l0 l1 K t n2))
theorem s_oCompare_ok (N : Nat) (x0 : List UInt8) (x1 : List UInt8) : bodyK (cx_oCompare N) Try.f44 [.v (.bytes x0) .no, .v (.bytes x1) .no] [] r_oCompare = s_oCompare N x0 x1 := by
  kernel_rfl
theorem go_oCompare : Goes Try.prog 44 := goes_of Try.func44 (by kernel_rfl) (c := bodyOf Try.f44) (by kernel_rfl)
theorem eo_oCompare (s : List UInt8 → List UInt8 → Option (Int)) (hs : ∀ (x0 : List UInt8) (x1 : List UInt8) (r0 : Int), s x0 x1 = some r0 → PureRet Try.prog T 44 [.v (.bytes x0) .no, .v (.bytes x1) .no] [.v (.int .i64 r0) .no]) : EntOK Try.prog T ⟨44, e_oCompare s⟩ := by
  refine ⟨go_oCompare, fun R ds K r h => ?_, fun R ds K => ?_⟩
  · simp only [e_oCompare] at h
    split at h
    · obtain ⟨r0, h1, h2⟩ := bnd1_some h
      exact ⟨_, h2, hs _ _ _ h1⟩
    · cases h
  · simp only [e_oCompare]
    split
    · rw [bnd1_b]; rfl
    · rfl
theorem co_oCompare (N : Nat) : CxOK Try.prog (cx_oCompare N) :=
  cxOK_of2 (es := []) (me := []) (ms := []) T_ok trivial trivial trivial rfl (fun _ _ _ _ => rfl) (fun _ _ _ _ _ _ => rfl) rfl
theorem lk_oCompare_2 (N : Nat) : LoopOK (cx_oCompare N) 46 (loopN Try.f44 0) := by
  refine loopOK_of (rid := 2) (by kernel_rfl) rfl rfl fun R ds m K r h => ?_
  have h : l_oCompare_2 N ds m K = some r := h
  unfold l_oCompare_2 at h
  split at h
  · exact ⟨N, Eq.trans (S_oCompare_2_ok ..) h⟩
  · cases h
theorem lo_oCompare (N : Nat) : LoopsOK (cx_oCompare N) Try.f44.ntmps (bodyOf Try.f44) :=
  loopsOK_of (k := 1) (by kernel_rfl) ⟨trivial, lk_oCompare_2 N⟩
theorem p_oCompare (N : Nat) (x0 : List UInt8) (x1 : List UInt8) (r0 : Int) (h : s_oCompare N x0 x1 = some r0) : PureRet Try.prog T 44 [.v (.bytes x0) .no, .v (.bytes x1) .no] [.v (.int .i64 r0) .no] :=
  pure_of (cx := cx_oCompare N) (by kernel_rfl) (co_oCompare N) Try.func44 (by kernel_rfl) (by kernel_rfl) (lo_oCompare N) rfl rfl rfl (rf := r_oCompare) ((s_oCompare_ok N x0 x1).trans h) (fun rs' m h => by
    unfold r_oCompare at h
    split at h
    · cases h; exact ⟨rfl, rfl⟩
    · cases h)
noncomputable def e_oSame {R : Type} (s : List UInt8 → List UInt8 → Option (Bool)) (ds : List D) (K : List D → Option R) : Option R :=
  match ds with
  | [.v (.bytes x0) .no, .v (.bytes x1) .no] => bnd1 (s x0 x1) fun r0 => K [.v (.bool r0) .no]
  | _ => none
noncomputable def r_oSame (rs : List D) (_ : Mem) : Option (Bool) :=
  match rs with
  | [.v (.bool r0) _] => some (r0)
  | _ => none
noncomputable def s_oSame (N : Nat) (x0 : List UInt8) (x1 : List UInt8) : Option (Bool) :=
  bnd1 (s_oCompare N x0 x1) fun n0 => some (decide (n0 = 0))
noncomputable def cx_oSame (N : Nat) : Cx := { T := T, isPure := tabP [⟨44, e_oCompare (s_oCompare N)⟩], pureK := fun g ds K => tabK [⟨44, e_oCompare (s_oCompare N)⟩] g ds K, memK := fun g dst ds m K => tabMK [] g dst ds m K, meth := tabM [], keep := fun _ => [], keepX := fun _ => [], loopT := fun _ _ _ _ => none, jumps := 9 }
theorem s_oSame_ok (N : Nat) (x0 : List UInt8) (x1 : List UInt8) : bodyK (cx_oSame N) Try.f16 [.v (.bytes x0) .no, .v (.bytes x1) .no] [] r_oSame = s_oSame N x0 x1 := by
  kernel_rfl
theorem go_oSame : Goes Try.prog 16 := goes_of Try.func16 (by kernel_rfl) (c := bodyOf Try.f16) (by kernel_rfl)
theorem eo_oSame (s : List UInt8 → List UInt8 → Option (Bool)) (hs : ∀ (x0 : List UInt8) (x1 : List UInt8) (r0 : Bool), s x0 x1 = some r0 → PureRet Try.prog T 16 [.v (.bytes x0) .no, .v (.bytes x1) .no] [.v (.bool r0) .no]) : EntOK Try.prog T ⟨16, e_oSame s⟩ := by
  refine ⟨go_oSame, fun R ds K r h => ?_, fun R ds K => ?_⟩
  · simp only [e_oSame] at h
    split at h
    · obtain ⟨r0, h1, h2⟩ := bnd1_some h
      exact ⟨_, h2, hs _ _ _ h1⟩
    · cases h
  · simp only [e_oSame]
    split
    · rw [bnd1_b]; rfl
    · rfl
theorem co_oSame (N : Nat) : CxOK Try.prog (cx_oSame N) :=
  cxOK_of2 (es := [⟨44, e_oCompare (s_oCompare N)⟩]) (me := []) (ms := []) T_ok ⟨eo_oCompare _ (p_oCompare N), trivial⟩ trivial trivial rfl (fun _ _ _ _ => rfl) (fun _ _ _ _ _ _ => rfl) rfl
theorem lo_oSame (N : Nat) : LoopsOK (cx_oSame N) Try.f16.ntmps (bodyOf Try.f16) :=
  loopsOK_of (k := 0) (by kernel_rfl) trivial
theorem p_oSame (N : Nat) (x0 : List UInt8) (x1 : List UInt8) (r0 : Bool) (h : s_oSame N x0 x1 = some r0) : PureRet Try.prog T 16 [.v (.bytes x0) .no, .v (.bytes x1) .no] [.v (.bool r0) .no] :=
  pure_of (cx := cx_oSame N) (by kernel_rfl) (co_oSame N) Try.func16 (by kernel_rfl) (by kernel_rfl) (lo_oSame N) rfl rfl rfl (rf := r_oSame) ((s_oSame_ok N x0 x1).trans h) (fun rs' m h => by
    unfold r_oSame at h
    split at h
    · cases h; exact ⟨rfl, rfl⟩
    · cases h)
noncomputable def e_frecords {R : Type} (s : Int → Option (Bool)) (ds : List D) (K : List D → Option R) : Option R :=
  match ds with
  | [.v (.int .i64 x0) .no] => bnd1 (s x0) fun r0 => K [.v (.bool r0) .no]
  | _ => none
noncomputable def r_frecords (rs : List D) (_ : Mem) : Option (Bool) :=
  match rs with
  | [.v (.bool r0) _] => some (r0)
  | _ => none
noncomputable def s_frecords (N : Nat) (x0 : Int) : Option (Bool) :=
  br (decide (3 ≤ x0)) (some (decide (x0 ≤ 5))) (some false)
noncomputable def cx_frecords (N : Nat) : Cx := { T := T, isPure := tabP [], pureK := fun g ds K => tabK [] g ds K, memK := fun g dst ds m K => tabMK [] g dst ds m K, meth := tabM [], keep := fun _ => [], keepX := fun _ => [], loopT := fun _ _ _ _ => none, jumps := 9 }
theorem s_frecords_ok (N : Nat) (x0 : Int) : bodyK (cx_frecords N) Try.f28 [.v (.int .i64 x0) .no] [] r_frecords = s_frecords N x0 := by
  kernel_rfl
theorem go_frecords : Goes Try.prog 28 := goes_of Try.func28 (by kernel_rfl) (c := bodyOf Try.f28) (by kernel_rfl)
theorem eo_frecords (s : Int → Option (Bool)) (hs : ∀ (x0 : Int) (r0 : Bool), s x0 = some r0 → PureRet Try.prog T 28 [.v (.int .i64 x0) .no] [.v (.bool r0) .no]) : EntOK Try.prog T ⟨28, e_frecords s⟩ := by
  refine ⟨go_frecords, fun R ds K r h => ?_, fun R ds K => ?_⟩
  · simp only [e_frecords] at h
    split at h
    · obtain ⟨r0, h1, h2⟩ := bnd1_some h
      exact ⟨_, h2, hs _ _ h1⟩
    · cases h
  · simp only [e_frecords]
    split
    · rw [bnd1_b]; rfl
    · rfl
theorem co_frecords (N : Nat) : CxOK Try.prog (cx_frecords N) :=
  cxOK_of2 (es := []) (me := []) (ms := []) T_ok trivial trivial trivial rfl (fun _ _ _ _ => rfl) (fun _ _ _ _ _ _ => rfl) rfl
theorem lo_frecords (N : Nat) : LoopsOK (cx_frecords N) Try.f28.ntmps (bodyOf Try.f28) :=
  loopsOK_of (k := 0) (by kernel_rfl) trivial
theorem p_frecords (N : Nat) (x0 : Int) (r0 : Bool) (h : s_frecords N x0 = some r0) : PureRet Try.prog T 28 [.v (.int .i64 x0) .no] [.v (.bool r0) .no] :=
  pure_of (cx := cx_frecords N) (by kernel_rfl) (co_frecords N) Try.func28 (by kernel_rfl) (by kernel_rfl) (lo_frecords N) rfl rfl rfl (rf := r_frecords) ((s_frecords_ok N x0).trans h) (fun rs' m h => by
    unfold r_frecords at h
    split at h
    · cases h; exact ⟨rfl, rfl⟩
    · cases h)
noncomputable def e_fnumber {R : Type} (s : Int → Bool → Int → Option (Int)) (ds : List D) (K : List D → Option R) : Option R :=
  match ds with
  | [.v (.int .i64 x0) .no, .v (.bool x1) .no, .v (.int .i64 x2) .no] => bnd1 (s x0 x1 x2) fun r0 => K [.v (.int .i64 r0) .no]
  | _ => none
noncomputable def r_fnumber (rs : List D) (_ : Mem) : Option (Int) :=
  match rs with
  | [.v (.int .i64 r0) _] => some (r0)
  | _ => none
noncomputable def s_fnumber (N : Nat) (x0 : Int) (x1 : Bool) (x2 : Int) : Option (Int) :=
  br (!x1) (br (!decide (x0 = 0)) (some 4) (br x1 (br (decide (x0 < 1)) (some 2) (br (decide (x2 < x0)) (some 2) (some 0))) (some 0))) (br x1 (br (decide (x0 < 1)) (some 2) (br (decide (x2 < x0)) (some 2) (some 0))) (some 0))
noncomputable def cx_fnumber (N : Nat) : Cx := { T := T, isPure := tabP [], pureK := fun g ds K => tabK [] g ds K, memK := fun g dst ds m K => tabMK [] g dst ds m K, meth := tabM [], keep := fun _ => [], keepX := fun _ => [], loopT := fun _ _ _ _ => none, jumps := 9 }
theorem s_fnumber_ok (N : Nat) (x0 : Int) (x1 : Bool) (x2 : Int) : bodyK (cx_fnumber N) Try.f27 [.v (.int .i64 x0) .no, .v (.bool x1) .no, .v (.int .i64 x2) .no] [] r_fnumber = s_fnumber N x0 x1 x2 := by
  kernel_rfl
theorem go_fnumber : Goes Try.prog 27 := goes_of Try.func27 (by kernel_rfl) (c := bodyOf Try.f27) (by kernel_rfl)
theorem eo_fnumber (s : Int → Bool → Int → Option (Int)) (hs : ∀ (x0 : Int) (x1 : Bool) (x2 : Int) (r0 : Int), s x0 x1 x2 = some r0 → PureRet Try.prog T 27 [.v (.int .i64 x0) .no, .v (.bool x1) .no, .v (.int .i64 x2) .no] [.v (.int .i64 r0) .no]) : EntOK Try.prog T ⟨27, e_fnumber s⟩ := by
  refine ⟨go_fnumber, fun R ds K r h => ?_, fun R ds K => ?_⟩
  · simp only [e_fnumber] at h
    split at h
    · obtain ⟨r0, h1, h2⟩ := bnd1_some h
      exact ⟨_, h2, hs _ _ _ _ h1⟩
    · cases h
  · simp only [e_fnumber]
    split
    · rw [bnd1_b]; rfl
    · rfl
theorem co_fnumber (N : Nat) : CxOK Try.prog (cx_fnumber N) :=
  cxOK_of2 (es := []) (me := []) (ms := []) T_ok trivial trivial trivial rfl (fun _ _ _ _ => rfl) (fun _ _ _ _ _ _ => rfl) rfl
theorem lo_fnumber (N : Nat) : LoopsOK (cx_fnumber N) Try.f27.ntmps (bodyOf Try.f27) :=
  loopsOK_of (k := 0) (by kernel_rfl) trivial
theorem p_fnumber (N : Nat) (x0 : Int) (x1 : Bool) (x2 : Int) (r0 : Int) (h : s_fnumber N x0 x1 x2 = some r0) : PureRet Try.prog T 27 [.v (.int .i64 x0) .no, .v (.bool x1) .no, .v (.int .i64 x2) .no] [.v (.int .i64 r0) .no] :=
  pure_of (cx := cx_fnumber N) (by kernel_rfl) (co_fnumber N) Try.func27 (by kernel_rfl) (by kernel_rfl) (lo_fnumber N) rfl rfl rfl (rf := r_fnumber) ((s_fnumber_ok N x0 x1 x2).trans h) (fun rs' m h => by
    unfold r_fnumber at h
    split at h
    · cases h; exact ⟨rfl, rfl⟩
    · cases h)
noncomputable def e_fisState {R : Type} (s : Int → Option (Bool)) (ds : List D) (K : List D → Option R) : Option R :=
  match ds with
  | [.v (.int .i64 x0) .no] => bnd1 (s x0) fun r0 => K [.v (.bool r0) .no]
  | _ => none
noncomputable def r_fisState (rs : List D) (_ : Mem) : Option (Bool) :=
  match rs with
  | [.v (.bool r0) _] => some (r0)
  | _ => none
noncomputable def s_fisState (N : Nat) (x0 : Int) : Option (Bool) :=
  br (decide (1 ≤ x0)) (some (decide (x0 ≤ 3))) (some false)
noncomputable def cx_fisState (N : Nat) : Cx := { T := T, isPure := tabP [], pureK := fun g ds K => tabK [] g ds K, memK := fun g dst ds m K => tabMK [] g dst ds m K, meth := tabM [], keep := fun _ => [], keepX := fun _ => [], loopT := fun _ _ _ _ => none, jumps := 9 }
theorem s_fisState_ok (N : Nat) (x0 : Int) : bodyK (cx_fisState N) Try.f29 [.v (.int .i64 x0) .no] [] r_fisState = s_fisState N x0 := by
  kernel_rfl
theorem go_fisState : Goes Try.prog 29 := goes_of Try.func29 (by kernel_rfl) (c := bodyOf Try.f29) (by kernel_rfl)
theorem eo_fisState (s : Int → Option (Bool)) (hs : ∀ (x0 : Int) (r0 : Bool), s x0 = some r0 → PureRet Try.prog T 29 [.v (.int .i64 x0) .no] [.v (.bool r0) .no]) : EntOK Try.prog T ⟨29, e_fisState s⟩ := by
  refine ⟨go_fisState, fun R ds K r h => ?_, fun R ds K => ?_⟩
  · simp only [e_fisState] at h
    split at h
    · obtain ⟨r0, h1, h2⟩ := bnd1_some h
      exact ⟨_, h2, hs _ _ h1⟩
    · cases h
  · simp only [e_fisState]
    split
    · rw [bnd1_b]; rfl
    · rfl
theorem co_fisState (N : Nat) : CxOK Try.prog (cx_fisState N) :=
  cxOK_of2 (es := []) (me := []) (ms := []) T_ok trivial trivial trivial rfl (fun _ _ _ _ => rfl) (fun _ _ _ _ _ _ => rfl) rfl
theorem lo_fisState (N : Nat) : LoopsOK (cx_fisState N) Try.f29.ntmps (bodyOf Try.f29) :=
  loopsOK_of (k := 0) (by kernel_rfl) trivial
theorem p_fisState (N : Nat) (x0 : Int) (r0 : Bool) (h : s_fisState N x0 = some r0) : PureRet Try.prog T 29 [.v (.int .i64 x0) .no] [.v (.bool r0) .no] :=
  pure_of (cx := cx_fisState N) (by kernel_rfl) (co_fisState N) Try.func29 (by kernel_rfl) (by kernel_rfl) (lo_fisState N) rfl rfl rfl (rf := r_fisState) ((s_fisState_ok N x0).trans h) (fun rs' m h => by
    unfold r_fisState at h
    split at h
    · cases h; exact ⟨rfl, rfl⟩
    · cases h)
end Go.Proofs.Ytllnklkjkjmjbaa.En

/- Functions of the program in plain Lean, joined to the program by evaluation; printed by a program. -/
namespace Go.Proofs.Ytllnklkjkjmjbaa.En
open Go Go.Proofs
set_option maxRecDepth 100000
set_option linter.unusedVariables false
noncomputable def e_fNext {R : Type} (s : Int → Int → Option (Int × Int)) (ds : List D) (K : List D → Option R) : Option R :=
  match ds with
  | [.v (.int .i64 x0) .no, .v (.int .i64 x1) .no] => bnd2 (s x0 x1) fun r0 r1 => K [.v (.int .i64 r0) .no, .v (.int .i64 r1) .no]
  | _ => none
noncomputable def r_fNext (rs : List D) (_ : Mem) : Option (Int × Int) :=
  match rs with
  | [.v (.int .i64 r0) _, .v (.int .i64 r1) _] => some (r0, r1)
  | _ => none
noncomputable def s_fNext (N : Nat) (x0 : Int) (x1 : Int) : Option (Int × Int) :=
  br (decide (x1 = 32)) (bnd1 (s_fisState N x0) fun b0 => br (!b0) (some (0, 2)) (br (decide (x0 = 1)) (some (0, 14)) (br (decide (x0 = 3)) (some (0, 14)) (some (1, 0)))))
  (br (decide (x1 = 64)) (bnd1 (s_fisState N x0) fun b1 => br (!b1) (some (0, 2)) (br (decide (x0 = 2)) (some (0, 14)) (br (decide (x0 = 3)) (some (0, 14)) (some (2, 0)))))
    (br (decide (x1 = 128)) (bnd1 (s_fisState N x0) fun b2 => br (!b2) (some (0, 2)) (br (decide (x0 = 3)) (some (0, 14)) (br (decide (x0 = 3)) (some (0, 14)) (some (3, 0))))) (some (0, 1))))
noncomputable def cx_fNext (N : Nat) : Cx := { T := T, isPure := tabP [⟨29, e_fisState (s_fisState N)⟩], pureK := fun g ds K => tabK [⟨29, e_fisState (s_fisState N)⟩] g ds K, memK := fun g dst ds m K => tabMK [] g dst ds m K, meth := tabM [], keep := fun _ => [], keepX := fun _ => [], loopT := fun _ _ _ _ => none, jumps := 9 }
theorem s_fNext_ok (N : Nat) (x0 : Int) (x1 : Int) : bodyK (cx_fNext N) Try.f19 [.v (.int .i64 x0) .no, .v (.int .i64 x1) .no] [] r_fNext = s_fNext N x0 x1 := by
  kernel_rfl
theorem go_fNext : Goes Try.prog 19 := goes_of Try.func19 (by kernel_rfl) (c := bodyOf Try.f19) (by kernel_rfl)
theorem eo_fNext (s : Int → Int → Option (Int × Int)) (hs : ∀ (x0 : Int) (x1 : Int) (r0 : Int) (r1 : Int), s x0 x1 = some (r0, r1) → PureRet Try.prog T 19 [.v (.int .i64 x0) .no, .v (.int .i64 x1) .no] [.v (.int .i64 r0) .no, .v (.int .i64 r1) .no]) : EntOK Try.prog T ⟨19, e_fNext s⟩ := by
  refine ⟨go_fNext, fun R ds K r h => ?_, fun R ds K => ?_⟩
  · simp only [e_fNext] at h
    split at h
    · obtain ⟨r0, r1, h1, h2⟩ := bnd2_some h
      exact ⟨_, h2, hs _ _ _ _ h1⟩
    · cases h
  · simp only [e_fNext]
    split
    · rw [bnd2_b]; rfl
    · rfl
theorem co_fNext (N : Nat) : CxOK Try.prog (cx_fNext N) :=
  cxOK_of2 (es := [⟨29, e_fisState (s_fisState N)⟩]) (me := []) (ms := []) T_ok ⟨eo_fisState _ (p_fisState N), trivial⟩ trivial trivial rfl (fun _ _ _ _ => rfl) (fun _ _ _ _ _ _ => rfl) rfl
theorem lo_fNext (N : Nat) : LoopsOK (cx_fNext N) Try.f19.ntmps (bodyOf Try.f19) :=
  loopsOK_of (k := 0) (by kernel_rfl) trivial
theorem p_fNext (N : Nat) (x0 : Int) (x1 : Int) (r0 : Int) (r1 : Int) (h : s_fNext N x0 x1 = some (r0, r1)) : PureRet Try.prog T 19 [.v (.int .i64 x0) .no, .v (.int .i64 x1) .no] [.v (.int .i64 r0) .no, .v (.int .i64 r1) .no] :=
  pure_of (cx := cx_fNext N) (by kernel_rfl) (co_fNext N) Try.func19 (by kernel_rfl) (by kernel_rfl) (lo_fNext N) rfl rfl rfl (rf := r_fNext) ((s_fNext_ok N x0 x1).trans h) (fun rs' m h => by
    unfold r_fNext at h
    split at h
    · cases h; exact ⟨rfl, rfl⟩
    · cases h)
noncomputable def e_fSame {R : Type} (s : Int → Int → List UInt8 → Int → Int → Int → Int → Int → List V → Int → Int → List UInt8 → Int → Int → Int → Int → Int → List V → Option (Bool)) (ds : List D) (K : List D → Option R) : Option R :=
  match ds with
  | [.agg [.v (.int .i64 x0) .no, .v (.int .i64 x1) .no, .v (.bytes x2) .no, .v (.int .i64 x3) .no, .v (.int .i64 x4) .no, .v (.int .i64 x5) .no, .v (.int .i64 x6) .no, .v (.int .i64 x7) .no, .v (.sl 48 x8) .no], .agg [.v (.int .i64 x9) .no, .v (.int .i64 x10) .no, .v (.bytes x11) .no, .v (.int .i64 x12) .no, .v (.int .i64 x13) .no, .v (.int .i64 x14) .no, .v (.int .i64 x15) .no, .v (.int .i64 x16) .no, .v (.sl 48 x17) .no]] => bnd1 (s x0 x1 x2 x3 x4 x5 x6 x7 x8 x9 x10 x11 x12 x13 x14 x15 x16 x17) fun r0 => K [.v (.bool r0) .no]
  | _ => none
noncomputable def r_fSame (rs : List D) (_ : Mem) : Option (Bool) :=
  match rs with
  | [.v (.bool r0) _] => some (r0)
  | _ => none
noncomputable def s_fSame (N : Nat) (x0 : Int) (x1 : Int) (x2 : List UInt8) (x3 : Int) (x4 : Int) (x5 : Int) (x6 : Int) (x7 : Int) (x8 : List V) (x9 : Int) (x10 : Int) (x11 : List UInt8) (x12 : Int) (x13 : Int) (x14 : Int) (x15 : Int) (x16 : Int) (x17 : List V) : Option (Bool) :=
  br (decide (x0 = x9))
  (br (decide (x1 = x10))
    (bnd1 (s_Equal N x2 x11) fun b0 =>
      br b0
        (br (decide (x3 = x12)) (br (decide (x4 = x13)) (br (decide (x5 = x14)) (br (decide (x6 = x15)) (br (decide (x7 = x16)) (bnd1 (s_aSame N x8 x17) fun b1 => some b1) (some false)) (some false)) (some false)) (some false))
          (some false))
        (some false))
    (some false))
  (some false)
noncomputable def cx_fSame (N : Nat) : Cx := { T := T, isPure := tabP [⟨46, e_Equal (s_Equal N)⟩, ⟨47, e_aSame (s_aSame N)⟩], pureK := fun g ds K => tabK [⟨46, e_Equal (s_Equal N)⟩, ⟨47, e_aSame (s_aSame N)⟩] g ds K, memK := fun g dst ds m K => tabMK [] g dst ds m K, meth := tabM [], keep := fun _ => [], keepX := fun _ => [], loopT := fun _ _ _ _ => none, jumps := 9 }
theorem s_fSame_ok (N : Nat) (x0 : Int) (x1 : Int) (x2 : List UInt8) (x3 : Int) (x4 : Int) (x5 : Int) (x6 : Int) (x7 : Int) (x8 : List V) (x9 : Int) (x10 : Int) (x11 : List UInt8) (x12 : Int) (x13 : Int) (x14 : Int) (x15 : Int) (x16 : Int) (x17 : List V) : bodyK (cx_fSame N) Try.f22 [.agg [.v (.int .i64 x0) .no, .v (.int .i64 x1) .no, .v (.bytes x2) .no, .v (.int .i64 x3) .no, .v (.int .i64 x4) .no, .v (.int .i64 x5) .no, .v (.int .i64 x6) .no, .v (.int .i64 x7) .no, .v (.sl 48 x8) .no], .agg [.v (.int .i64 x9) .no, .v (.int .i64 x10) .no, .v (.bytes x11) .no, .v (.int .i64 x12) .no, .v (.int .i64 x13) .no, .v (.int .i64 x14) .no, .v (.int .i64 x15) .no, .v (.int .i64 x16) .no, .v (.sl 48 x17) .no]] [] r_fSame = s_fSame N x0 x1 x2 x3 x4 x5 x6 x7 x8 x9 x10 x11 x12 x13 x14 x15 x16 x17 := by
  kernel_rfl
theorem go_fSame : Goes Try.prog 22 := goes_of Try.func22 (by kernel_rfl) (c := bodyOf Try.f22) (by kernel_rfl)
theorem eo_fSame (s : Int → Int → List UInt8 → Int → Int → Int → Int → Int → List V → Int → Int → List UInt8 → Int → Int → Int → Int → Int → List V → Option (Bool)) (hs : ∀ (x0 : Int) (x1 : Int) (x2 : List UInt8) (x3 : Int) (x4 : Int) (x5 : Int) (x6 : Int) (x7 : Int) (x8 : List V) (x9 : Int) (x10 : Int) (x11 : List UInt8) (x12 : Int) (x13 : Int) (x14 : Int) (x15 : Int) (x16 : Int) (x17 : List V) (r0 : Bool), s x0 x1 x2 x3 x4 x5 x6 x7 x8 x9 x10 x11 x12 x13 x14 x15 x16 x17 = some r0 → PureRet Try.prog T 22 [.agg [.v (.int .i64 x0) .no, .v (.int .i64 x1) .no, .v (.bytes x2) .no, .v (.int .i64 x3) .no, .v (.int .i64 x4) .no, .v (.int .i64 x5) .no, .v (.int .i64 x6) .no, .v (.int .i64 x7) .no, .v (.sl 48 x8) .no], .agg [.v (.int .i64 x9) .no, .v (.int .i64 x10) .no, .v (.bytes x11) .no, .v (.int .i64 x12) .no, .v (.int .i64 x13) .no, .v (.int .i64 x14) .no, .v (.int .i64 x15) .no, .v (.int .i64 x16) .no, .v (.sl 48 x17) .no]] [.v (.bool r0) .no]) : EntOK Try.prog T ⟨22, e_fSame s⟩ := by
  refine ⟨go_fSame, fun R ds K r h => ?_, fun R ds K => ?_⟩
  · simp only [e_fSame] at h
    split at h
    · obtain ⟨r0, h1, h2⟩ := bnd1_some h
      exact ⟨_, h2, hs _ _ _ _ _ _ _ _ _ _ _ _ _ _ _ _ _ _ _ h1⟩
    · cases h
  · simp only [e_fSame]
    split
    · rw [bnd1_b]; rfl
    · rfl
theorem co_fSame (N : Nat) : CxOK Try.prog (cx_fSame N) :=
  cxOK_of2 (es := [⟨46, e_Equal (s_Equal N)⟩, ⟨47, e_aSame (s_aSame N)⟩]) (me := []) (ms := []) T_ok ⟨eo_Equal _ (p_Equal N), eo_aSame _ (p_aSame N), trivial⟩ trivial trivial rfl (fun _ _ _ _ => rfl) (fun _ _ _ _ _ _ => rfl) rfl
theorem lo_fSame (N : Nat) : LoopsOK (cx_fSame N) Try.f22.ntmps (bodyOf Try.f22) :=
  loopsOK_of (k := 0) (by kernel_rfl) trivial
theorem p_fSame (N : Nat) (x0 : Int) (x1 : Int) (x2 : List UInt8) (x3 : Int) (x4 : Int) (x5 : Int) (x6 : Int) (x7 : Int) (x8 : List V) (x9 : Int) (x10 : Int) (x11 : List UInt8) (x12 : Int) (x13 : Int) (x14 : Int) (x15 : Int) (x16 : Int) (x17 : List V) (r0 : Bool) (h : s_fSame N x0 x1 x2 x3 x4 x5 x6 x7 x8 x9 x10 x11 x12 x13 x14 x15 x16 x17 = some r0) : PureRet Try.prog T 22 [.agg [.v (.int .i64 x0) .no, .v (.int .i64 x1) .no, .v (.bytes x2) .no, .v (.int .i64 x3) .no, .v (.int .i64 x4) .no, .v (.int .i64 x5) .no, .v (.int .i64 x6) .no, .v (.int .i64 x7) .no, .v (.sl 48 x8) .no], .agg [.v (.int .i64 x9) .no, .v (.int .i64 x10) .no, .v (.bytes x11) .no, .v (.int .i64 x12) .no, .v (.int .i64 x13) .no, .v (.int .i64 x14) .no, .v (.int .i64 x15) .no, .v (.int .i64 x16) .no, .v (.sl 48 x17) .no]] [.v (.bool r0) .no] :=
  pure_of (cx := cx_fSame N) (by kernel_rfl) (co_fSame N) Try.func22 (by kernel_rfl) (by kernel_rfl) (lo_fSame N) rfl rfl rfl (rf := r_fSame) ((s_fSame_ok N x0 x1 x2 x3 x4 x5 x6 x7 x8 x9 x10 x11 x12 x13 x14 x15 x16 x17).trans h) (fun rs' m h => by
    unfold r_fSame at h
    split at h
    · cases h; exact ⟨rfl, rfl⟩
    · cases h)
noncomputable def e_hrecords {R : Type} (s : Int → Option (Bool)) (ds : List D) (K : List D → Option R) : Option R :=
  match ds with
  | [.v (.int .i64 x0) .no] => bnd1 (s x0) fun r0 => K [.v (.bool r0) .no]
  | _ => none
noncomputable def r_hrecords (rs : List D) (_ : Mem) : Option (Bool) :=
  match rs with
  | [.v (.bool r0) _] => some (r0)
  | _ => none
noncomputable def s_hrecords (N : Nat) (x0 : Int) : Option (Bool) :=
  br (decide (x0 = 3)) (some true) (br (decide (x0 = 4)) (some true) (some (decide (x0 = 5))))
noncomputable def cx_hrecords (N : Nat) : Cx := { T := T, isPure := tabP [], pureK := fun g ds K => tabK [] g ds K, memK := fun g dst ds m K => tabMK [] g dst ds m K, meth := tabM [], keep := fun _ => [], keepX := fun _ => [], loopT := fun _ _ _ _ => none, jumps := 9 }
theorem s_hrecords_ok (N : Nat) (x0 : Int) : bodyK (cx_hrecords N) Try.f57 [.v (.int .i64 x0) .no] [] r_hrecords = s_hrecords N x0 := by
  kernel_rfl
theorem go_hrecords : Goes Try.prog 57 := goes_of Try.func57 (by kernel_rfl) (c := bodyOf Try.f57) (by kernel_rfl)
theorem eo_hrecords (s : Int → Option (Bool)) (hs : ∀ (x0 : Int) (r0 : Bool), s x0 = some r0 → PureRet Try.prog T 57 [.v (.int .i64 x0) .no] [.v (.bool r0) .no]) : EntOK Try.prog T ⟨57, e_hrecords s⟩ := by
  refine ⟨go_hrecords, fun R ds K r h => ?_, fun R ds K => ?_⟩
  · simp only [e_hrecords] at h
    split at h
    · obtain ⟨r0, h1, h2⟩ := bnd1_some h
      exact ⟨_, h2, hs _ _ h1⟩
    · cases h
  · simp only [e_hrecords]
    split
    · rw [bnd1_b]; rfl
    · rfl
theorem co_hrecords (N : Nat) : CxOK Try.prog (cx_hrecords N) :=
  cxOK_of2 (es := []) (me := []) (ms := []) T_ok trivial trivial trivial rfl (fun _ _ _ _ => rfl) (fun _ _ _ _ _ _ => rfl) rfl
theorem lo_hrecords (N : Nat) : LoopsOK (cx_hrecords N) Try.f57.ntmps (bodyOf Try.f57) :=
  loopsOK_of (k := 0) (by kernel_rfl) trivial
theorem p_hrecords (N : Nat) (x0 : Int) (r0 : Bool) (h : s_hrecords N x0 = some r0) : PureRet Try.prog T 57 [.v (.int .i64 x0) .no] [.v (.bool r0) .no] :=
  pure_of (cx := cx_hrecords N) (by kernel_rfl) (co_hrecords N) Try.func57 (by kernel_rfl) (by kernel_rfl) (lo_hrecords N) rfl rfl rfl (rf := r_hrecords) ((s_hrecords_ok N x0).trans h) (fun rs' m h => by
    unfold r_hrecords at h
    split at h
    · cases h; exact ⟨rfl, rfl⟩
    · cases h)
noncomputable def e_hnumber {R : Type} (s : Int → Bool → Int → Option (Int)) (ds : List D) (K : List D → Option R) : Option R :=
  match ds with
  | [.v (.int .i64 x0) .no, .v (.bool x1) .no, .v (.int .i64 x2) .no] => bnd1 (s x0 x1 x2) fun r0 => K [.v (.int .i64 r0) .no]
  | _ => none
noncomputable def r_hnumber (rs : List D) (_ : Mem) : Option (Int) :=
  match rs with
  | [.v (.int .i64 r0) _] => some (r0)
  | _ => none
noncomputable def s_hnumber (N : Nat) (x0 : Int) (x1 : Bool) (x2 : Int) : Option (Int) :=
  br (!x1) (br (!decide (x0 = 0)) (some 4) (some 0)) (br (decide (x0 < 1)) (some 2) (br (decide (x2 < x0)) (some 2) (some 0)))
noncomputable def cx_hnumber (N : Nat) : Cx := { T := T, isPure := tabP [], pureK := fun g ds K => tabK [] g ds K, memK := fun g dst ds m K => tabMK [] g dst ds m K, meth := tabM [], keep := fun _ => [], keepX := fun _ => [], loopT := fun _ _ _ _ => none, jumps := 9 }
theorem s_hnumber_ok (N : Nat) (x0 : Int) (x1 : Bool) (x2 : Int) : bodyK (cx_hnumber N) Try.f56 [.v (.int .i64 x0) .no, .v (.bool x1) .no, .v (.int .i64 x2) .no] [] r_hnumber = s_hnumber N x0 x1 x2 := by
  kernel_rfl
theorem go_hnumber : Goes Try.prog 56 := goes_of Try.func56 (by kernel_rfl) (c := bodyOf Try.f56) (by kernel_rfl)
theorem eo_hnumber (s : Int → Bool → Int → Option (Int)) (hs : ∀ (x0 : Int) (x1 : Bool) (x2 : Int) (r0 : Int), s x0 x1 x2 = some r0 → PureRet Try.prog T 56 [.v (.int .i64 x0) .no, .v (.bool x1) .no, .v (.int .i64 x2) .no] [.v (.int .i64 r0) .no]) : EntOK Try.prog T ⟨56, e_hnumber s⟩ := by
  refine ⟨go_hnumber, fun R ds K r h => ?_, fun R ds K => ?_⟩
  · simp only [e_hnumber] at h
    split at h
    · obtain ⟨r0, h1, h2⟩ := bnd1_some h
      exact ⟨_, h2, hs _ _ _ _ h1⟩
    · cases h
  · simp only [e_hnumber]
    split
    · rw [bnd1_b]; rfl
    · rfl
theorem co_hnumber (N : Nat) : CxOK Try.prog (cx_hnumber N) :=
  cxOK_of2 (es := []) (me := []) (ms := []) T_ok trivial trivial trivial rfl (fun _ _ _ _ => rfl) (fun _ _ _ _ _ _ => rfl) rfl
theorem lo_hnumber (N : Nat) : LoopsOK (cx_hnumber N) Try.f56.ntmps (bodyOf Try.f56) :=
  loopsOK_of (k := 0) (by kernel_rfl) trivial
theorem p_hnumber (N : Nat) (x0 : Int) (x1 : Bool) (x2 : Int) (r0 : Int) (h : s_hnumber N x0 x1 x2 = some r0) : PureRet Try.prog T 56 [.v (.int .i64 x0) .no, .v (.bool x1) .no, .v (.int .i64 x2) .no] [.v (.int .i64 r0) .no] :=
  pure_of (cx := cx_hnumber N) (by kernel_rfl) (co_hnumber N) Try.func56 (by kernel_rfl) (by kernel_rfl) (lo_hnumber N) rfl rfl rfl (rf := r_hnumber) ((s_hnumber_ok N x0 x1 x2).trans h) (fun rs' m h => by
    unfold r_hnumber at h
    split at h
    · cases h; exact ⟨rfl, rfl⟩
    · cases h)
noncomputable def e_hsizes {R : Type} (s : Int → Int → List UInt8 → Int → Int → Int → Int → Int → List V → Option (Int)) (ds : List D) (K : List D → Option R) : Option R :=
  match ds with
  | [.agg [.v (.int .i64 x0) .no, .v (.int .i64 x1) .no, .v (.bytes x2) .no, .v (.int .i64 x3) .no, .v (.int .i64 x4) .no, .v (.int .i64 x5) .no, .v (.int .i64 x6) .no, .v (.int .i64 x7) .no, .v (.sl 48 x8) .no]] => bnd1 (s x0 x1 x2 x3 x4 x5 x6 x7 x8) fun r0 => K [.v (.int .i64 r0) .no]
  | _ => none
noncomputable def r_hsizes (rs : List D) (_ : Mem) : Option (Int) :=
  match rs with
  | [.v (.int .i64 r0) _] => some (r0)
  | _ => none
noncomputable def s_hsizes (N : Nat) (x0 : Int) (x1 : Int) (x2 : List UInt8) (x3 : Int) (x4 : Int) (x5 : Int) (x6 : Int) (x7 : Int) (x8 : List V) : Option (Int) :=
  bnd1 (s_hnumber N x4 (decide (x1 = 2)) 1024) fun n0 =>
  br (decide (n0 = 0))
    (bnd1 (s_hrecords N x1) fun b1 =>
      bnd1 (s_hnumber N x5 b1 254) fun n2 =>
        br (decide (n2 = 0)) (bnd1 (s_hrecords N x1) fun b3 => bnd1 (s_hnumber N x6 b3 254) fun n4 => br (decide (n4 = 0)) (br (decide (1024 < IntKind.i64.wrap (x5 * x6))) (some 3) (some n4)) (some n4))
          (br (decide (n2 = 0)) (br (decide (1024 < IntKind.i64.wrap (x5 * x6))) (some 3) (some n2)) (some n2)))
    (br (decide (n0 = 0)) (bnd1 (s_hrecords N x1) fun b5 => bnd1 (s_hnumber N x6 b5 254) fun n6 => br (decide (n6 = 0)) (br (decide (1024 < IntKind.i64.wrap (x5 * x6))) (some 3) (some n6)) (some n6))
      (br (decide (n0 = 0)) (br (decide (1024 < IntKind.i64.wrap (x5 * x6))) (some 3) (some n0)) (some n0)))
noncomputable def cx_hsizes (N : Nat) : Cx := { T := T, isPure := tabP [⟨56, e_hnumber (s_hnumber N)⟩, ⟨57, e_hrecords (s_hrecords N)⟩], pureK := fun g ds K => tabK [⟨56, e_hnumber (s_hnumber N)⟩, ⟨57, e_hrecords (s_hrecords N)⟩] g ds K, memK := fun g dst ds m K => tabMK [] g dst ds m K, meth := tabM [], keep := fun _ => [], keepX := fun _ => [], loopT := fun _ _ _ _ => none, jumps := 9 }
theorem s_hsizes_ok (N : Nat) (x0 : Int) (x1 : Int) (x2 : List UInt8) (x3 : Int) (x4 : Int) (x5 : Int) (x6 : Int) (x7 : Int) (x8 : List V) : bodyK (cx_hsizes N) Try.f31 [.agg [.v (.int .i64 x0) .no, .v (.int .i64 x1) .no, .v (.bytes x2) .no, .v (.int .i64 x3) .no, .v (.int .i64 x4) .no, .v (.int .i64 x5) .no, .v (.int .i64 x6) .no, .v (.int .i64 x7) .no, .v (.sl 48 x8) .no]] [] r_hsizes = s_hsizes N x0 x1 x2 x3 x4 x5 x6 x7 x8 := by
  kernel_rfl
theorem go_hsizes : Goes Try.prog 31 := goes_of Try.func31 (by kernel_rfl) (c := bodyOf Try.f31) (by kernel_rfl)
theorem eo_hsizes (s : Int → Int → List UInt8 → Int → Int → Int → Int → Int → List V → Option (Int)) (hs : ∀ (x0 : Int) (x1 : Int) (x2 : List UInt8) (x3 : Int) (x4 : Int) (x5 : Int) (x6 : Int) (x7 : Int) (x8 : List V) (r0 : Int), s x0 x1 x2 x3 x4 x5 x6 x7 x8 = some r0 → PureRet Try.prog T 31 [.agg [.v (.int .i64 x0) .no, .v (.int .i64 x1) .no, .v (.bytes x2) .no, .v (.int .i64 x3) .no, .v (.int .i64 x4) .no, .v (.int .i64 x5) .no, .v (.int .i64 x6) .no, .v (.int .i64 x7) .no, .v (.sl 48 x8) .no]] [.v (.int .i64 r0) .no]) : EntOK Try.prog T ⟨31, e_hsizes s⟩ := by
  refine ⟨go_hsizes, fun R ds K r h => ?_, fun R ds K => ?_⟩
  · simp only [e_hsizes] at h
    split at h
    · obtain ⟨r0, h1, h2⟩ := bnd1_some h
      exact ⟨_, h2, hs _ _ _ _ _ _ _ _ _ _ h1⟩
    · cases h
  · simp only [e_hsizes]
    split
    · rw [bnd1_b]; rfl
    · rfl
theorem co_hsizes (N : Nat) : CxOK Try.prog (cx_hsizes N) :=
  cxOK_of2 (es := [⟨56, e_hnumber (s_hnumber N)⟩, ⟨57, e_hrecords (s_hrecords N)⟩]) (me := []) (ms := []) T_ok ⟨eo_hnumber _ (p_hnumber N), eo_hrecords _ (p_hrecords N), trivial⟩ trivial trivial rfl (fun _ _ _ _ => rfl) (fun _ _ _ _ _ _ => rfl) rfl
theorem lo_hsizes (N : Nat) : LoopsOK (cx_hsizes N) Try.f31.ntmps (bodyOf Try.f31) :=
  loopsOK_of (k := 0) (by kernel_rfl) trivial
theorem p_hsizes (N : Nat) (x0 : Int) (x1 : Int) (x2 : List UInt8) (x3 : Int) (x4 : Int) (x5 : Int) (x6 : Int) (x7 : Int) (x8 : List V) (r0 : Int) (h : s_hsizes N x0 x1 x2 x3 x4 x5 x6 x7 x8 = some r0) : PureRet Try.prog T 31 [.agg [.v (.int .i64 x0) .no, .v (.int .i64 x1) .no, .v (.bytes x2) .no, .v (.int .i64 x3) .no, .v (.int .i64 x4) .no, .v (.int .i64 x5) .no, .v (.int .i64 x6) .no, .v (.int .i64 x7) .no, .v (.sl 48 x8) .no]] [.v (.int .i64 r0) .no] :=
  pure_of (cx := cx_hsizes N) (by kernel_rfl) (co_hsizes N) Try.func31 (by kernel_rfl) (by kernel_rfl) (lo_hsizes N) rfl rfl rfl (rf := r_hsizes) ((s_hsizes_ok N x0 x1 x2 x3 x4 x5 x6 x7 x8).trans h) (fun rs' m h => by
    unfold r_hsizes at h
    split at h
    · cases h; exact ⟨rfl, rfl⟩
    · cases h)
noncomputable def e_hCheck {R : Type} (s : Int → Int → List UInt8 → Int → Int → Int → Int → Int → List V → Option (Int)) (ds : List D) (K : List D → Option R) : Option R :=
  match ds with
  | [.agg [.v (.int .i64 x0) .no, .v (.int .i64 x1) .no, .v (.bytes x2) .no, .v (.int .i64 x3) .no, .v (.int .i64 x4) .no, .v (.int .i64 x5) .no, .v (.int .i64 x6) .no, .v (.int .i64 x7) .no, .v (.sl 48 x8) .no]] => bnd1 (s x0 x1 x2 x3 x4 x5 x6 x7 x8) fun r0 => K [.v (.int .i64 r0) .no]
  | _ => none
noncomputable def r_hCheck (rs : List D) (_ : Mem) : Option (Int) :=
  match rs with
  | [.v (.int .i64 r0) _] => some (r0)
  | _ => none
noncomputable def s_hCheck (N : Nat) (x0 : Int) (x1 : Int) (x2 : List UInt8) (x3 : Int) (x4 : Int) (x5 : Int) (x6 : Int) (x7 : Int) (x8 : List V) : Option (Int) :=
  br (decide (x1 < 1)) (some 1)
  (br (decide (5 < x1)) (some 1)
    (br (decide (x0 < 1)) (some 2)
      (br (decide (65534 < x0)) (some 2)
        (br (decide (x0 = 16383)) (some 2)
          (br (decide (16 < (↑x2.length : Int))) (some 3)
            (br (decide (0 < (↑x2.length : Int)))
              (br (!decide (x1 = 1)) (some 4)
                (br (decide (x3 < 0)) (some 2)
                  (br (decide (30 < x3)) (some 2)
                    (br (!decide (x3 = 0))
                      (br (decide (x1 = 1)) (some 4)
                        (bnd1 (s_hsizes N x0 x1 x2 x3 x4 x5 x6 x7 x8) fun n0 => br (!decide (n0 = 0)) (some n0) (br (decide (x7 < 1)) (some 2) (br (decide (3 < x7)) (some 2) (bnd1 (s_qCheckRules N x8) fun n1 => some n1)))))
                      (bnd1 (s_hsizes N x0 x1 x2 x3 x4 x5 x6 x7 x8) fun n2 => br (!decide (n2 = 0)) (some n2) (br (decide (x7 < 1)) (some 2) (br (decide (3 < x7)) (some 2) (bnd1 (s_qCheckRules N x8) fun n3 => some n3))))))))
              (br (decide (x3 < 0)) (some 2)
                (br (decide (30 < x3)) (some 2)
                  (br (!decide (x3 = 0))
                    (br (decide (x1 = 1)) (some 4)
                      (bnd1 (s_hsizes N x0 x1 x2 x3 x4 x5 x6 x7 x8) fun n4 => br (!decide (n4 = 0)) (some n4) (br (decide (x7 < 1)) (some 2) (br (decide (3 < x7)) (some 2) (bnd1 (s_qCheckRules N x8) fun n5 => some n5)))))
                    (bnd1 (s_hsizes N x0 x1 x2 x3 x4 x5 x6 x7 x8) fun n6 => br (!decide (n6 = 0)) (some n6) (br (decide (x7 < 1)) (some 2) (br (decide (3 < x7)) (some 2) (bnd1 (s_qCheckRules N x8) fun n7 => some n7)))))))))))))
noncomputable def cx_hCheck (N : Nat) : Cx := { T := T, isPure := tabP [⟨31, e_hsizes (s_hsizes N)⟩, ⟨32, e_qCheckRules (s_qCheckRules N)⟩], pureK := fun g ds K => tabK [⟨31, e_hsizes (s_hsizes N)⟩, ⟨32, e_qCheckRules (s_qCheckRules N)⟩] g ds K, memK := fun g dst ds m K => tabMK [] g dst ds m K, meth := tabM [], keep := fun _ => [], keepX := fun _ => [], loopT := fun _ _ _ _ => none, jumps := 9 }
theorem s_hCheck_ok (N : Nat) (x0 : Int) (x1 : Int) (x2 : List UInt8) (x3 : Int) (x4 : Int) (x5 : Int) (x6 : Int) (x7 : Int) (x8 : List V) : bodyK (cx_hCheck N) Try.f12 [.agg [.v (.int .i64 x0) .no, .v (.int .i64 x1) .no, .v (.bytes x2) .no, .v (.int .i64 x3) .no, .v (.int .i64 x4) .no, .v (.int .i64 x5) .no, .v (.int .i64 x6) .no, .v (.int .i64 x7) .no, .v (.sl 48 x8) .no]] [] r_hCheck = s_hCheck N x0 x1 x2 x3 x4 x5 x6 x7 x8 := by
  kernel_rfl
theorem go_hCheck : Goes Try.prog 12 := goes_of Try.func12 (by kernel_rfl) (c := bodyOf Try.f12) (by kernel_rfl)
theorem eo_hCheck (s : Int → Int → List UInt8 → Int → Int → Int → Int → Int → List V → Option (Int)) (hs : ∀ (x0 : Int) (x1 : Int) (x2 : List UInt8) (x3 : Int) (x4 : Int) (x5 : Int) (x6 : Int) (x7 : Int) (x8 : List V) (r0 : Int), s x0 x1 x2 x3 x4 x5 x6 x7 x8 = some r0 → PureRet Try.prog T 12 [.agg [.v (.int .i64 x0) .no, .v (.int .i64 x1) .no, .v (.bytes x2) .no, .v (.int .i64 x3) .no, .v (.int .i64 x4) .no, .v (.int .i64 x5) .no, .v (.int .i64 x6) .no, .v (.int .i64 x7) .no, .v (.sl 48 x8) .no]] [.v (.int .i64 r0) .no]) : EntOK Try.prog T ⟨12, e_hCheck s⟩ := by
  refine ⟨go_hCheck, fun R ds K r h => ?_, fun R ds K => ?_⟩
  · simp only [e_hCheck] at h
    split at h
    · obtain ⟨r0, h1, h2⟩ := bnd1_some h
      exact ⟨_, h2, hs _ _ _ _ _ _ _ _ _ _ h1⟩
    · cases h
  · simp only [e_hCheck]
    split
    · rw [bnd1_b]; rfl
    · rfl
theorem co_hCheck (N : Nat) : CxOK Try.prog (cx_hCheck N) :=
  cxOK_of2 (es := [⟨31, e_hsizes (s_hsizes N)⟩, ⟨32, e_qCheckRules (s_qCheckRules N)⟩]) (me := []) (ms := []) T_ok ⟨eo_hsizes _ (p_hsizes N), eo_qCheckRules _ (p_qCheckRules N), trivial⟩ trivial trivial rfl (fun _ _ _ _ => rfl) (fun _ _ _ _ _ _ => rfl) rfl
theorem lo_hCheck (N : Nat) : LoopsOK (cx_hCheck N) Try.f12.ntmps (bodyOf Try.f12) :=
  loopsOK_of (k := 0) (by kernel_rfl) trivial
theorem p_hCheck (N : Nat) (x0 : Int) (x1 : Int) (x2 : List UInt8) (x3 : Int) (x4 : Int) (x5 : Int) (x6 : Int) (x7 : Int) (x8 : List V) (r0 : Int) (h : s_hCheck N x0 x1 x2 x3 x4 x5 x6 x7 x8 = some r0) : PureRet Try.prog T 12 [.agg [.v (.int .i64 x0) .no, .v (.int .i64 x1) .no, .v (.bytes x2) .no, .v (.int .i64 x3) .no, .v (.int .i64 x4) .no, .v (.int .i64 x5) .no, .v (.int .i64 x6) .no, .v (.int .i64 x7) .no, .v (.sl 48 x8) .no]] [.v (.int .i64 r0) .no] :=
  pure_of (cx := cx_hCheck N) (by kernel_rfl) (co_hCheck N) Try.func12 (by kernel_rfl) (by kernel_rfl) (lo_hCheck N) rfl rfl rfl (rf := r_hCheck) ((s_hCheck_ok N x0 x1 x2 x3 x4 x5 x6 x7 x8).trans h) (fun rs' m h => by
    unfold r_hCheck at h
    split at h
    · cases h; exact ⟨rfl, rfl⟩
    · cases h)
noncomputable def e_htwo {R : Type} (s : Int → Option (List UInt8)) (ds : List D) (K : List D → Option R) : Option R :=
  match ds with
  | [.v (.int .i64 x0) .no] => bnd1 (s x0) fun r0 => K [.v (.bytes r0) .no]
  | _ => none
noncomputable def r_htwo (rs : List D) (_ : Mem) : Option (List UInt8) :=
  match rs with
  | [.v (.bytes r0) _] => some (r0)
  | _ => none
noncomputable def s_htwo (N : Nat) (x0 : Int) : Option (List UInt8) :=
  some [UInt8.ofNat (IntKind.u8.wrap (IntKind.i64.wrap (x0.tdiv 256))).toNat, UInt8.ofNat (IntKind.u8.wrap (x0.tmod 256)).toNat]
noncomputable def cx_htwo (N : Nat) : Cx := { T := T, isPure := tabP [], pureK := fun g ds K => tabK [] g ds K, memK := fun g dst ds m K => tabMK [] g dst ds m K, meth := tabM [], keep := fun _ => [], keepX := fun _ => [], loopT := fun _ _ _ _ => none, jumps := 9 }
theorem s_htwo_ok (N : Nat) (x0 : Int) : bodyK (cx_htwo N) Try.f68 [.v (.int .i64 x0) .no] [] r_htwo = s_htwo N x0 := by
  kernel_rfl
theorem go_htwo : Goes Try.prog 68 := goes_of Try.func68 (by kernel_rfl) (c := bodyOf Try.f68) (by kernel_rfl)
theorem eo_htwo (s : Int → Option (List UInt8)) (hs : ∀ (x0 : Int) (r0 : List UInt8), s x0 = some r0 → PureRet Try.prog T 68 [.v (.int .i64 x0) .no] [.v (.bytes r0) .no]) : EntOK Try.prog T ⟨68, e_htwo s⟩ := by
  refine ⟨go_htwo, fun R ds K r h => ?_, fun R ds K => ?_⟩
  · simp only [e_htwo] at h
    split at h
    · obtain ⟨r0, h1, h2⟩ := bnd1_some h
      exact ⟨_, h2, hs _ _ h1⟩
    · cases h
  · simp only [e_htwo]
    split
    · rw [bnd1_b]; rfl
    · rfl
theorem co_htwo (N : Nat) : CxOK Try.prog (cx_htwo N) :=
  cxOK_of2 (es := []) (me := []) (ms := []) T_ok trivial trivial trivial rfl (fun _ _ _ _ => rfl) (fun _ _ _ _ _ _ => rfl) rfl
theorem lo_htwo (N : Nat) : LoopsOK (cx_htwo N) Try.f68.ntmps (bodyOf Try.f68) :=
  loopsOK_of (k := 0) (by kernel_rfl) trivial
theorem p_htwo (N : Nat) (x0 : Int) (r0 : List UInt8) (h : s_htwo N x0 = some r0) : PureRet Try.prog T 68 [.v (.int .i64 x0) .no] [.v (.bytes r0) .no] :=
  pure_of (cx := cx_htwo N) (by kernel_rfl) (co_htwo N) Try.func68 (by kernel_rfl) (by kernel_rfl) (lo_htwo N) rfl rfl rfl (rf := r_htwo) ((s_htwo_ok N x0).trans h) (fun rs' m h => by
    unfold r_htwo at h
    split at h
    · cases h; exact ⟨rfl, rfl⟩
    · cases h)
noncomputable def e_hobject {R : Type} (s : Int → Int → List UInt8 → Int → Int → Int → Int → Int → List V → Option (Int × List UInt8 × List V)) (ds : List D) (K : List D → Option R) : Option R :=
  match ds with
  | [.agg [.v (.int .i64 x0) .no, .v (.int .i64 x1) .no, .v (.bytes x2) .no, .v (.int .i64 x3) .no, .v (.int .i64 x4) .no, .v (.int .i64 x5) .no, .v (.int .i64 x6) .no, .v (.int .i64 x7) .no, .v (.sl 48 x8) .no]] => bnd3 (s x0 x1 x2 x3 x4 x5 x6 x7 x8) fun r0 r1 r2 => K [.agg [.v (.int .i64 r0) .no, .v (.bytes r1) .no, .v (.sl 62 r2) .no]]
  | _ => none
noncomputable def r_hobject (rs : List D) (_ : Mem) : Option (Int × List UInt8 × List V) :=
  match rs with
  | [.agg [.v (.int .i64 r0) _, .v (.bytes r1) _, .v (.sl 62 r2) _]] => some (r0, r1, r2)
  | _ => none
noncomputable def s_hobject (N : Nat) (x0 : Int) (x1 : Int) (x2 : List UInt8) (x3 : Int) (x4 : Int) (x5 : Int) (x6 : Int) (x7 : Int) (x8 : List V) : Option (Int × List UInt8 × List V) :=
  bnd1 (s_hrecords N x1) fun b0 =>
  br b0
    (bnd1 (s_htwo N x0) fun l1 =>
      br (decide (0 < (↑x2.length : Int)))
        (br (decide (x1 = 2))
          (bnd1 (s_htwo N x4) fun l2 =>
            br (!decide (x3 = 0))
              (br (decide (0 < (↑x8.length : Int)))
                (bnd2 (s_qEncode N x8) fun l3 n4 =>
                  some
                    (98, [],
                      [V.agg [V.int IntKind.i64 130, V.bytes [UInt8.ofNat (IntKind.u8.wrap x1).toNat, UInt8.ofNat (IntKind.u8.wrap x5).toNat, UInt8.ofNat (IntKind.u8.wrap x6).toNat], V.sl 62 []],
                        V.agg [V.int IntKind.i64 131, V.bytes l1, V.sl 62 []], V.agg [V.int IntKind.i64 132, V.bytes x2, V.sl 62 []], V.agg [V.int IntKind.i64 128, V.bytes l2, V.sl 62 []],
                        V.agg [V.int IntKind.i64 136, V.bytes [UInt8.ofNat (IntKind.u8.wrap x3).toNat], V.sl 62 []], V.agg [V.int IntKind.i64 138, V.bytes [UInt8.ofNat (IntKind.u8.wrap x7).toNat], V.sl 62 []],
                        V.agg [V.int IntKind.i64 134, V.bytes l3, V.sl 62 []]]))
                (some
                  (98, [],
                    [V.agg [V.int IntKind.i64 130, V.bytes [UInt8.ofNat (IntKind.u8.wrap x1).toNat, UInt8.ofNat (IntKind.u8.wrap x5).toNat, UInt8.ofNat (IntKind.u8.wrap x6).toNat], V.sl 62 []],
                      V.agg [V.int IntKind.i64 131, V.bytes l1, V.sl 62 []], V.agg [V.int IntKind.i64 132, V.bytes x2, V.sl 62 []], V.agg [V.int IntKind.i64 128, V.bytes l2, V.sl 62 []],
                      V.agg [V.int IntKind.i64 136, V.bytes [UInt8.ofNat (IntKind.u8.wrap x3).toNat], V.sl 62 []], V.agg [V.int IntKind.i64 138, V.bytes [UInt8.ofNat (IntKind.u8.wrap x7).toNat], V.sl 62 []]])))
              (br (decide (0 < (↑x8.length : Int)))
                (bnd2 (s_qEncode N x8) fun l5 n6 =>
                  some
                    (98, [],
                      [V.agg [V.int IntKind.i64 130, V.bytes [UInt8.ofNat (IntKind.u8.wrap x1).toNat, UInt8.ofNat (IntKind.u8.wrap x5).toNat, UInt8.ofNat (IntKind.u8.wrap x6).toNat], V.sl 62 []],
                        V.agg [V.int IntKind.i64 131, V.bytes l1, V.sl 62 []], V.agg [V.int IntKind.i64 132, V.bytes x2, V.sl 62 []], V.agg [V.int IntKind.i64 128, V.bytes l2, V.sl 62 []],
                        V.agg [V.int IntKind.i64 138, V.bytes [UInt8.ofNat (IntKind.u8.wrap x7).toNat], V.sl 62 []], V.agg [V.int IntKind.i64 134, V.bytes l5, V.sl 62 []]]))
                (some
                  (98, [],
                    [V.agg [V.int IntKind.i64 130, V.bytes [UInt8.ofNat (IntKind.u8.wrap x1).toNat, UInt8.ofNat (IntKind.u8.wrap x5).toNat, UInt8.ofNat (IntKind.u8.wrap x6).toNat], V.sl 62 []],
                      V.agg [V.int IntKind.i64 131, V.bytes l1, V.sl 62 []], V.agg [V.int IntKind.i64 132, V.bytes x2, V.sl 62 []], V.agg [V.int IntKind.i64 128, V.bytes l2, V.sl 62 []],
                      V.agg [V.int IntKind.i64 138, V.bytes [UInt8.ofNat (IntKind.u8.wrap x7).toNat], V.sl 62 []]]))))
          (br (!decide (x3 = 0))
            (br (decide (0 < (↑x8.length : Int)))
              (bnd2 (s_qEncode N x8) fun l7 n8 =>
                some
                  (98, [],
                    [V.agg [V.int IntKind.i64 130, V.bytes [UInt8.ofNat (IntKind.u8.wrap x1).toNat, UInt8.ofNat (IntKind.u8.wrap x5).toNat, UInt8.ofNat (IntKind.u8.wrap x6).toNat], V.sl 62 []],
                      V.agg [V.int IntKind.i64 131, V.bytes l1, V.sl 62 []], V.agg [V.int IntKind.i64 132, V.bytes x2, V.sl 62 []], V.agg [V.int IntKind.i64 136, V.bytes [UInt8.ofNat (IntKind.u8.wrap x3).toNat], V.sl 62 []],
                      V.agg [V.int IntKind.i64 138, V.bytes [UInt8.ofNat (IntKind.u8.wrap x7).toNat], V.sl 62 []], V.agg [V.int IntKind.i64 134, V.bytes l7, V.sl 62 []]]))
              (some
                (98, [],
                  [V.agg [V.int IntKind.i64 130, V.bytes [UInt8.ofNat (IntKind.u8.wrap x1).toNat, UInt8.ofNat (IntKind.u8.wrap x5).toNat, UInt8.ofNat (IntKind.u8.wrap x6).toNat], V.sl 62 []],
                    V.agg [V.int IntKind.i64 131, V.bytes l1, V.sl 62 []], V.agg [V.int IntKind.i64 132, V.bytes x2, V.sl 62 []], V.agg [V.int IntKind.i64 136, V.bytes [UInt8.ofNat (IntKind.u8.wrap x3).toNat], V.sl 62 []],
                    V.agg [V.int IntKind.i64 138, V.bytes [UInt8.ofNat (IntKind.u8.wrap x7).toNat], V.sl 62 []]])))
            (br (decide (0 < (↑x8.length : Int)))
              (bnd2 (s_qEncode N x8) fun l9 n10 =>
                some
                  (98, [],
                    [V.agg [V.int IntKind.i64 130, V.bytes [UInt8.ofNat (IntKind.u8.wrap x1).toNat, UInt8.ofNat (IntKind.u8.wrap x5).toNat, UInt8.ofNat (IntKind.u8.wrap x6).toNat], V.sl 62 []],
                      V.agg [V.int IntKind.i64 131, V.bytes l1, V.sl 62 []], V.agg [V.int IntKind.i64 132, V.bytes x2, V.sl 62 []], V.agg [V.int IntKind.i64 138, V.bytes [UInt8.ofNat (IntKind.u8.wrap x7).toNat], V.sl 62 []],
                      V.agg [V.int IntKind.i64 134, V.bytes l9, V.sl 62 []]]))
              (some
                (98, [],
                  [V.agg [V.int IntKind.i64 130, V.bytes [UInt8.ofNat (IntKind.u8.wrap x1).toNat, UInt8.ofNat (IntKind.u8.wrap x5).toNat, UInt8.ofNat (IntKind.u8.wrap x6).toNat], V.sl 62 []],
                    V.agg [V.int IntKind.i64 131, V.bytes l1, V.sl 62 []], V.agg [V.int IntKind.i64 132, V.bytes x2, V.sl 62 []], V.agg [V.int IntKind.i64 138, V.bytes [UInt8.ofNat (IntKind.u8.wrap x7).toNat], V.sl 62 []]])))))
        (br (decide (x1 = 2))
          (bnd1 (s_htwo N x4) fun l11 =>
            br (!decide (x3 = 0))
              (br (decide (0 < (↑x8.length : Int)))
                (bnd2 (s_qEncode N x8) fun l12 n13 =>
                  some
                    (98, [],
                      [V.agg [V.int IntKind.i64 130, V.bytes [UInt8.ofNat (IntKind.u8.wrap x1).toNat, UInt8.ofNat (IntKind.u8.wrap x5).toNat, UInt8.ofNat (IntKind.u8.wrap x6).toNat], V.sl 62 []],
                        V.agg [V.int IntKind.i64 131, V.bytes l1, V.sl 62 []], V.agg [V.int IntKind.i64 128, V.bytes l11, V.sl 62 []], V.agg [V.int IntKind.i64 136, V.bytes [UInt8.ofNat (IntKind.u8.wrap x3).toNat], V.sl 62 []],
                        V.agg [V.int IntKind.i64 138, V.bytes [UInt8.ofNat (IntKind.u8.wrap x7).toNat], V.sl 62 []], V.agg [V.int IntKind.i64 134, V.bytes l12, V.sl 62 []]]))
                (some
                  (98, [],
                    [V.agg [V.int IntKind.i64 130, V.bytes [UInt8.ofNat (IntKind.u8.wrap x1).toNat, UInt8.ofNat (IntKind.u8.wrap x5).toNat, UInt8.ofNat (IntKind.u8.wrap x6).toNat], V.sl 62 []],
                      V.agg [V.int IntKind.i64 131, V.bytes l1, V.sl 62 []], V.agg [V.int IntKind.i64 128, V.bytes l11, V.sl 62 []], V.agg [V.int IntKind.i64 136, V.bytes [UInt8.ofNat (IntKind.u8.wrap x3).toNat], V.sl 62 []],
                      V.agg [V.int IntKind.i64 138, V.bytes [UInt8.ofNat (IntKind.u8.wrap x7).toNat], V.sl 62 []]])))
              (br (decide (0 < (↑x8.length : Int)))
                (bnd2 (s_qEncode N x8) fun l14 n15 =>
                  some
                    (98, [],
                      [V.agg [V.int IntKind.i64 130, V.bytes [UInt8.ofNat (IntKind.u8.wrap x1).toNat, UInt8.ofNat (IntKind.u8.wrap x5).toNat, UInt8.ofNat (IntKind.u8.wrap x6).toNat], V.sl 62 []],
                        V.agg [V.int IntKind.i64 131, V.bytes l1, V.sl 62 []], V.agg [V.int IntKind.i64 128, V.bytes l11, V.sl 62 []], V.agg [V.int IntKind.i64 138, V.bytes [UInt8.ofNat (IntKind.u8.wrap x7).toNat], V.sl 62 []],
                        V.agg [V.int IntKind.i64 134, V.bytes l14, V.sl 62 []]]))
                (some
                  (98, [],
                    [V.agg [V.int IntKind.i64 130, V.bytes [UInt8.ofNat (IntKind.u8.wrap x1).toNat, UInt8.ofNat (IntKind.u8.wrap x5).toNat, UInt8.ofNat (IntKind.u8.wrap x6).toNat], V.sl 62 []],
                      V.agg [V.int IntKind.i64 131, V.bytes l1, V.sl 62 []], V.agg [V.int IntKind.i64 128, V.bytes l11, V.sl 62 []], V.agg [V.int IntKind.i64 138, V.bytes [UInt8.ofNat (IntKind.u8.wrap x7).toNat], V.sl 62 []]]))))
          (br (!decide (x3 = 0))
            (br (decide (0 < (↑x8.length : Int)))
              (bnd2 (s_qEncode N x8) fun l16 n17 =>
                some
                  (98, [],
                    [V.agg [V.int IntKind.i64 130, V.bytes [UInt8.ofNat (IntKind.u8.wrap x1).toNat, UInt8.ofNat (IntKind.u8.wrap x5).toNat, UInt8.ofNat (IntKind.u8.wrap x6).toNat], V.sl 62 []],
                      V.agg [V.int IntKind.i64 131, V.bytes l1, V.sl 62 []], V.agg [V.int IntKind.i64 136, V.bytes [UInt8.ofNat (IntKind.u8.wrap x3).toNat], V.sl 62 []],
                      V.agg [V.int IntKind.i64 138, V.bytes [UInt8.ofNat (IntKind.u8.wrap x7).toNat], V.sl 62 []], V.agg [V.int IntKind.i64 134, V.bytes l16, V.sl 62 []]]))
              (some
                (98, [],
                  [V.agg [V.int IntKind.i64 130, V.bytes [UInt8.ofNat (IntKind.u8.wrap x1).toNat, UInt8.ofNat (IntKind.u8.wrap x5).toNat, UInt8.ofNat (IntKind.u8.wrap x6).toNat], V.sl 62 []],
                    V.agg [V.int IntKind.i64 131, V.bytes l1, V.sl 62 []], V.agg [V.int IntKind.i64 136, V.bytes [UInt8.ofNat (IntKind.u8.wrap x3).toNat], V.sl 62 []],
                    V.agg [V.int IntKind.i64 138, V.bytes [UInt8.ofNat (IntKind.u8.wrap x7).toNat], V.sl 62 []]])))
            (br (decide (0 < (↑x8.length : Int)))
              (bnd2 (s_qEncode N x8) fun l18 n19 =>
                some
                  (98, [],
                    [V.agg [V.int IntKind.i64 130, V.bytes [UInt8.ofNat (IntKind.u8.wrap x1).toNat, UInt8.ofNat (IntKind.u8.wrap x5).toNat, UInt8.ofNat (IntKind.u8.wrap x6).toNat], V.sl 62 []],
                      V.agg [V.int IntKind.i64 131, V.bytes l1, V.sl 62 []], V.agg [V.int IntKind.i64 138, V.bytes [UInt8.ofNat (IntKind.u8.wrap x7).toNat], V.sl 62 []], V.agg [V.int IntKind.i64 134, V.bytes l18, V.sl 62 []]]))
              (some
                (98, [],
                  [V.agg [V.int IntKind.i64 130, V.bytes [UInt8.ofNat (IntKind.u8.wrap x1).toNat, UInt8.ofNat (IntKind.u8.wrap x5).toNat, UInt8.ofNat (IntKind.u8.wrap x6).toNat], V.sl 62 []],
                    V.agg [V.int IntKind.i64 131, V.bytes l1, V.sl 62 []], V.agg [V.int IntKind.i64 138, V.bytes [UInt8.ofNat (IntKind.u8.wrap x7).toNat], V.sl 62 []]]))))))
    (bnd1 (s_htwo N x0) fun l20 =>
      br (decide (0 < (↑x2.length : Int)))
        (br (decide (x1 = 2))
          (bnd1 (s_htwo N x4) fun l21 =>
            br (!decide (x3 = 0))
              (br (decide (0 < (↑x8.length : Int)))
                (bnd2 (s_qEncode N x8) fun l22 n23 =>
                  some
                    (98, [],
                      [V.agg [V.int IntKind.i64 130, V.bytes [UInt8.ofNat (IntKind.u8.wrap x1).toNat], V.sl 62 []], V.agg [V.int IntKind.i64 131, V.bytes l20, V.sl 62 []], V.agg [V.int IntKind.i64 132, V.bytes x2, V.sl 62 []],
                        V.agg [V.int IntKind.i64 128, V.bytes l21, V.sl 62 []], V.agg [V.int IntKind.i64 136, V.bytes [UInt8.ofNat (IntKind.u8.wrap x3).toNat], V.sl 62 []],
                        V.agg [V.int IntKind.i64 138, V.bytes [UInt8.ofNat (IntKind.u8.wrap x7).toNat], V.sl 62 []], V.agg [V.int IntKind.i64 134, V.bytes l22, V.sl 62 []]]))
                (some
                  (98, [],
                    [V.agg [V.int IntKind.i64 130, V.bytes [UInt8.ofNat (IntKind.u8.wrap x1).toNat], V.sl 62 []], V.agg [V.int IntKind.i64 131, V.bytes l20, V.sl 62 []], V.agg [V.int IntKind.i64 132, V.bytes x2, V.sl 62 []],
                      V.agg [V.int IntKind.i64 128, V.bytes l21, V.sl 62 []], V.agg [V.int IntKind.i64 136, V.bytes [UInt8.ofNat (IntKind.u8.wrap x3).toNat], V.sl 62 []],
                      V.agg [V.int IntKind.i64 138, V.bytes [UInt8.ofNat (IntKind.u8.wrap x7).toNat], V.sl 62 []]])))
              (br (decide (0 < (↑x8.length : Int)))
                (bnd2 (s_qEncode N x8) fun l24 n25 =>
                  some
                    (98, [],
                      [V.agg [V.int IntKind.i64 130, V.bytes [UInt8.ofNat (IntKind.u8.wrap x1).toNat], V.sl 62 []], V.agg [V.int IntKind.i64 131, V.bytes l20, V.sl 62 []], V.agg [V.int IntKind.i64 132, V.bytes x2, V.sl 62 []],
                        V.agg [V.int IntKind.i64 128, V.bytes l21, V.sl 62 []], V.agg [V.int IntKind.i64 138, V.bytes [UInt8.ofNat (IntKind.u8.wrap x7).toNat], V.sl 62 []], V.agg [V.int IntKind.i64 134, V.bytes l24, V.sl 62 []]]))
                (some
                  (98, [],
                    [V.agg [V.int IntKind.i64 130, V.bytes [UInt8.ofNat (IntKind.u8.wrap x1).toNat], V.sl 62 []], V.agg [V.int IntKind.i64 131, V.bytes l20, V.sl 62 []], V.agg [V.int IntKind.i64 132, V.bytes x2, V.sl 62 []],
                      V.agg [V.int IntKind.i64 128, V.bytes l21, V.sl 62 []], V.agg [V.int IntKind.i64 138, V.bytes [UInt8.ofNat (IntKind.u8.wrap x7).toNat], V.sl 62 []]]))))
          (br (!decide (x3 = 0))
            (br (decide (0 < (↑x8.length : Int)))
              (bnd2 (s_qEncode N x8) fun l26 n27 =>
                some
                  (98, [],
                    [V.agg [V.int IntKind.i64 130, V.bytes [UInt8.ofNat (IntKind.u8.wrap x1).toNat], V.sl 62 []], V.agg [V.int IntKind.i64 131, V.bytes l20, V.sl 62 []], V.agg [V.int IntKind.i64 132, V.bytes x2, V.sl 62 []],
                      V.agg [V.int IntKind.i64 136, V.bytes [UInt8.ofNat (IntKind.u8.wrap x3).toNat], V.sl 62 []], V.agg [V.int IntKind.i64 138, V.bytes [UInt8.ofNat (IntKind.u8.wrap x7).toNat], V.sl 62 []],
                      V.agg [V.int IntKind.i64 134, V.bytes l26, V.sl 62 []]]))
              (some
                (98, [],
                  [V.agg [V.int IntKind.i64 130, V.bytes [UInt8.ofNat (IntKind.u8.wrap x1).toNat], V.sl 62 []], V.agg [V.int IntKind.i64 131, V.bytes l20, V.sl 62 []], V.agg [V.int IntKind.i64 132, V.bytes x2, V.sl 62 []],
                    V.agg [V.int IntKind.i64 136, V.bytes [UInt8.ofNat (IntKind.u8.wrap x3).toNat], V.sl 62 []], V.agg [V.int IntKind.i64 138, V.bytes [UInt8.ofNat (IntKind.u8.wrap x7).toNat], V.sl 62 []]])))
            (br (decide (0 < (↑x8.length : Int)))
              (bnd2 (s_qEncode N x8) fun l28 n29 =>
                some
                  (98, [],
                    [V.agg [V.int IntKind.i64 130, V.bytes [UInt8.ofNat (IntKind.u8.wrap x1).toNat], V.sl 62 []], V.agg [V.int IntKind.i64 131, V.bytes l20, V.sl 62 []], V.agg [V.int IntKind.i64 132, V.bytes x2, V.sl 62 []],
                      V.agg [V.int IntKind.i64 138, V.bytes [UInt8.ofNat (IntKind.u8.wrap x7).toNat], V.sl 62 []], V.agg [V.int IntKind.i64 134, V.bytes l28, V.sl 62 []]]))
              (some
                (98, [],
                  [V.agg [V.int IntKind.i64 130, V.bytes [UInt8.ofNat (IntKind.u8.wrap x1).toNat], V.sl 62 []], V.agg [V.int IntKind.i64 131, V.bytes l20, V.sl 62 []], V.agg [V.int IntKind.i64 132, V.bytes x2, V.sl 62 []],
                    V.agg [V.int IntKind.i64 138, V.bytes [UInt8.ofNat (IntKind.u8.wrap x7).toNat], V.sl 62 []]])))))
        (br (decide (x1 = 2))
          (bnd1 (s_htwo N x4) fun l30 =>
            br (!decide (x3 = 0))
              (br (decide (0 < (↑x8.length : Int)))
                (bnd2 (s_qEncode N x8) fun l31 n32 =>
                  some
                    (98, [],
                      [V.agg [V.int IntKind.i64 130, V.bytes [UInt8.ofNat (IntKind.u8.wrap x1).toNat], V.sl 62 []], V.agg [V.int IntKind.i64 131, V.bytes l20, V.sl 62 []], V.agg [V.int IntKind.i64 128, V.bytes l30, V.sl 62 []],
                        V.agg [V.int IntKind.i64 136, V.bytes [UInt8.ofNat (IntKind.u8.wrap x3).toNat], V.sl 62 []], V.agg [V.int IntKind.i64 138, V.bytes [UInt8.ofNat (IntKind.u8.wrap x7).toNat], V.sl 62 []],
                        V.agg [V.int IntKind.i64 134, V.bytes l31, V.sl 62 []]]))
                (some
                  (98, [],
                    [V.agg [V.int IntKind.i64 130, V.bytes [UInt8.ofNat (IntKind.u8.wrap x1).toNat], V.sl 62 []], V.agg [V.int IntKind.i64 131, V.bytes l20, V.sl 62 []], V.agg [V.int IntKind.i64 128, V.bytes l30, V.sl 62 []],
                      V.agg [V.int IntKind.i64 136, V.bytes [UInt8.ofNat (IntKind.u8.wrap x3).toNat], V.sl 62 []], V.agg [V.int IntKind.i64 138, V.bytes [UInt8.ofNat (IntKind.u8.wrap x7).toNat], V.sl 62 []]])))
              (br (decide (0 < (↑x8.length : Int)))
                (bnd2 (s_qEncode N x8) fun l33 n34 =>
                  some
                    (98, [],
                      [V.agg [V.int IntKind.i64 130, V.bytes [UInt8.ofNat (IntKind.u8.wrap x1).toNat], V.sl 62 []], V.agg [V.int IntKind.i64 131, V.bytes l20, V.sl 62 []], V.agg [V.int IntKind.i64 128, V.bytes l30, V.sl 62 []],
                        V.agg [V.int IntKind.i64 138, V.bytes [UInt8.ofNat (IntKind.u8.wrap x7).toNat], V.sl 62 []], V.agg [V.int IntKind.i64 134, V.bytes l33, V.sl 62 []]]))
                (some
                  (98, [],
                    [V.agg [V.int IntKind.i64 130, V.bytes [UInt8.ofNat (IntKind.u8.wrap x1).toNat], V.sl 62 []], V.agg [V.int IntKind.i64 131, V.bytes l20, V.sl 62 []], V.agg [V.int IntKind.i64 128, V.bytes l30, V.sl 62 []],
                      V.agg [V.int IntKind.i64 138, V.bytes [UInt8.ofNat (IntKind.u8.wrap x7).toNat], V.sl 62 []]]))))
          (br (!decide (x3 = 0))
            (br (decide (0 < (↑x8.length : Int)))
              (bnd2 (s_qEncode N x8) fun l35 n36 =>
                some
                  (98, [],
                    [V.agg [V.int IntKind.i64 130, V.bytes [UInt8.ofNat (IntKind.u8.wrap x1).toNat], V.sl 62 []], V.agg [V.int IntKind.i64 131, V.bytes l20, V.sl 62 []],
                      V.agg [V.int IntKind.i64 136, V.bytes [UInt8.ofNat (IntKind.u8.wrap x3).toNat], V.sl 62 []], V.agg [V.int IntKind.i64 138, V.bytes [UInt8.ofNat (IntKind.u8.wrap x7).toNat], V.sl 62 []],
                      V.agg [V.int IntKind.i64 134, V.bytes l35, V.sl 62 []]]))
              (some
                (98, [],
                  [V.agg [V.int IntKind.i64 130, V.bytes [UInt8.ofNat (IntKind.u8.wrap x1).toNat], V.sl 62 []], V.agg [V.int IntKind.i64 131, V.bytes l20, V.sl 62 []],
                    V.agg [V.int IntKind.i64 136, V.bytes [UInt8.ofNat (IntKind.u8.wrap x3).toNat], V.sl 62 []], V.agg [V.int IntKind.i64 138, V.bytes [UInt8.ofNat (IntKind.u8.wrap x7).toNat], V.sl 62 []]])))
            (br (decide (0 < (↑x8.length : Int)))
              (bnd2 (s_qEncode N x8) fun l37 n38 =>
                some
                  (98, [],
                    [V.agg [V.int IntKind.i64 130, V.bytes [UInt8.ofNat (IntKind.u8.wrap x1).toNat], V.sl 62 []], V.agg [V.int IntKind.i64 131, V.bytes l20, V.sl 62 []],
                      V.agg [V.int IntKind.i64 138, V.bytes [UInt8.ofNat (IntKind.u8.wrap x7).toNat], V.sl 62 []], V.agg [V.int IntKind.i64 134, V.bytes l37, V.sl 62 []]]))
              (some
                (98, [],
                  [V.agg [V.int IntKind.i64 130, V.bytes [UInt8.ofNat (IntKind.u8.wrap x1).toNat], V.sl 62 []], V.agg [V.int IntKind.i64 131, V.bytes l20, V.sl 62 []],
                    V.agg [V.int IntKind.i64 138, V.bytes [UInt8.ofNat (IntKind.u8.wrap x7).toNat], V.sl 62 []]]))))))
noncomputable def cx_hobject (N : Nat) : Cx := { T := T, isPure := tabP [⟨57, e_hrecords (s_hrecords N)⟩, ⟨68, e_htwo (s_htwo N)⟩, ⟨69, e_qEncode (s_qEncode N)⟩], pureK := fun g ds K => tabK [⟨57, e_hrecords (s_hrecords N)⟩, ⟨68, e_htwo (s_htwo N)⟩, ⟨69, e_qEncode (s_qEncode N)⟩] g ds K, memK := fun g dst ds m K => tabMK [] g dst ds m K, meth := tabM [], keep := fun _ => [], keepX := fun _ => [], loopT := fun _ _ _ _ => none, jumps := 9 }
theorem s_hobject_ok (N : Nat) (x0 : Int) (x1 : Int) (x2 : List UInt8) (x3 : Int) (x4 : Int) (x5 : Int) (x6 : Int) (x7 : Int) (x8 : List V) : bodyK (cx_hobject N) Try.f43 [.agg [.v (.int .i64 x0) .no, .v (.int .i64 x1) .no, .v (.bytes x2) .no, .v (.int .i64 x3) .no, .v (.int .i64 x4) .no, .v (.int .i64 x5) .no, .v (.int .i64 x6) .no, .v (.int .i64 x7) .no, .v (.sl 48 x8) .no]] [] r_hobject = s_hobject N x0 x1 x2 x3 x4 x5 x6 x7 x8 := by
  kernel_rfl
theorem go_hobject : Goes Try.prog 43 := goes_of Try.func43 (by kernel_rfl) (c := bodyOf Try.f43) (by kernel_rfl)
theorem eo_hobject (s : Int → Int → List UInt8 → Int → Int → Int → Int → Int → List V → Option (Int × List UInt8 × List V)) (hs : ∀ (x0 : Int) (x1 : Int) (x2 : List UInt8) (x3 : Int) (x4 : Int) (x5 : Int) (x6 : Int) (x7 : Int) (x8 : List V) (r0 : Int) (r1 : List UInt8) (r2 : List V), s x0 x1 x2 x3 x4 x5 x6 x7 x8 = some (r0, r1, r2) → PureRet Try.prog T 43 [.agg [.v (.int .i64 x0) .no, .v (.int .i64 x1) .no, .v (.bytes x2) .no, .v (.int .i64 x3) .no, .v (.int .i64 x4) .no, .v (.int .i64 x5) .no, .v (.int .i64 x6) .no, .v (.int .i64 x7) .no, .v (.sl 48 x8) .no]] [.agg [.v (.int .i64 r0) .no, .v (.bytes r1) .no, .v (.sl 62 r2) .no]]) : EntOK Try.prog T ⟨43, e_hobject s⟩ := by
  refine ⟨go_hobject, fun R ds K r h => ?_, fun R ds K => ?_⟩
  · simp only [e_hobject] at h
    split at h
    · obtain ⟨r0, r1, r2, h1, h2⟩ := bnd3_some h
      exact ⟨_, h2, hs _ _ _ _ _ _ _ _ _ _ _ _ h1⟩
    · cases h
  · simp only [e_hobject]
    split
    · rw [bnd3_b]; rfl
    · rfl
theorem co_hobject (N : Nat) : CxOK Try.prog (cx_hobject N) :=
  cxOK_of2 (es := [⟨57, e_hrecords (s_hrecords N)⟩, ⟨68, e_htwo (s_htwo N)⟩, ⟨69, e_qEncode (s_qEncode N)⟩]) (me := []) (ms := []) T_ok ⟨eo_hrecords _ (p_hrecords N), eo_htwo _ (p_htwo N), eo_qEncode _ (p_qEncode N), trivial⟩ trivial trivial rfl (fun _ _ _ _ => rfl) (fun _ _ _ _ _ _ => rfl) rfl
theorem lo_hobject (N : Nat) : LoopsOK (cx_hobject N) Try.f43.ntmps (bodyOf Try.f43) :=
  loopsOK_of (k := 0) (by kernel_rfl) trivial
theorem p_hobject (N : Nat) (x0 : Int) (x1 : Int) (x2 : List UInt8) (x3 : Int) (x4 : Int) (x5 : Int) (x6 : Int) (x7 : Int) (x8 : List V) (r0 : Int) (r1 : List UInt8) (r2 : List V) (h : s_hobject N x0 x1 x2 x3 x4 x5 x6 x7 x8 = some (r0, r1, r2)) : PureRet Try.prog T 43 [.agg [.v (.int .i64 x0) .no, .v (.int .i64 x1) .no, .v (.bytes x2) .no, .v (.int .i64 x3) .no, .v (.int .i64 x4) .no, .v (.int .i64 x5) .no, .v (.int .i64 x6) .no, .v (.int .i64 x7) .no, .v (.sl 48 x8) .no]] [.agg [.v (.int .i64 r0) .no, .v (.bytes r1) .no, .v (.sl 62 r2) .no]] :=
  pure_of (cx := cx_hobject N) (by kernel_rfl) (co_hobject N) Try.func43 (by kernel_rfl) (by kernel_rfl) (lo_hobject N) rfl rfl rfl (rf := r_hobject) ((s_hobject_ok N x0 x1 x2 x3 x4 x5 x6 x7 x8).trans h) (fun rs' m h => by
    unfold r_hobject at h
    split at h
    · cases h; exact ⟨rfl, rfl⟩
    · cases h)
noncomputable def e_hEncode {R : Type} (s : Int → Int → List UInt8 → Int → Int → Int → Int → Int → List V → Option (List UInt8 × Int)) (ds : List D) (K : List D → Option R) : Option R :=
  match ds with
  | [.agg [.v (.int .i64 x0) .no, .v (.int .i64 x1) .no, .v (.bytes x2) .no, .v (.int .i64 x3) .no, .v (.int .i64 x4) .no, .v (.int .i64 x5) .no, .v (.int .i64 x6) .no, .v (.int .i64 x7) .no, .v (.sl 48 x8) .no]] => bnd2 (s x0 x1 x2 x3 x4 x5 x6 x7 x8) fun r0 r1 => K [.v (.bytes r0) .no, .v (.int .i64 r1) .no]
  | _ => none
noncomputable def r_hEncode (rs : List D) (_ : Mem) : Option (List UInt8 × Int) :=
  match rs with
  | [.v (.bytes r0) _, .v (.int .i64 r1) _] => some (r0, r1)
  | _ => none
noncomputable def s_hEncode (N : Nat) (x0 : Int) (x1 : Int) (x2 : List UInt8) (x3 : Int) (x4 : Int) (x5 : Int) (x6 : Int) (x7 : Int) (x8 : List V) : Option (List UInt8 × Int) :=
  bnd1 (s_hCheck N x0 x1 x2 x3 x4 x5 x6 x7 x8) fun n0 =>
  br (!decide (n0 = 0)) (some ([], n0)) (bnd3 (s_hobject N x0 x1 x2 x3 x4 x5 x6 x7 x8) fun n1 l2 l3 => bnd2 (s_rEncode N [V.agg [V.int IntKind.i64 n1, V.bytes l2, V.sl 62 l3]]) fun l4 n5 => some (l4, n5))
noncomputable def cx_hEncode (N : Nat) : Cx := { T := T, isPure := tabP [⟨12, e_hCheck (s_hCheck N)⟩, ⟨43, e_hobject (s_hobject N)⟩, ⟨42, e_rEncode (s_rEncode N)⟩], pureK := fun g ds K => tabK [⟨12, e_hCheck (s_hCheck N)⟩, ⟨43, e_hobject (s_hobject N)⟩, ⟨42, e_rEncode (s_rEncode N)⟩] g ds K, memK := fun g dst ds m K => tabMK [] g dst ds m K, meth := tabM [], keep := fun _ => [], keepX := fun _ => [], loopT := fun _ _ _ _ => none, jumps := 9 }
theorem s_hEncode_ok (N : Nat) (x0 : Int) (x1 : Int) (x2 : List UInt8) (x3 : Int) (x4 : Int) (x5 : Int) (x6 : Int) (x7 : Int) (x8 : List V) : bodyK (cx_hEncode N) Try.f15 [.agg [.v (.int .i64 x0) .no, .v (.int .i64 x1) .no, .v (.bytes x2) .no, .v (.int .i64 x3) .no, .v (.int .i64 x4) .no, .v (.int .i64 x5) .no, .v (.int .i64 x6) .no, .v (.int .i64 x7) .no, .v (.sl 48 x8) .no]] [] r_hEncode = s_hEncode N x0 x1 x2 x3 x4 x5 x6 x7 x8 := by
  kernel_rfl
theorem go_hEncode : Goes Try.prog 15 := goes_of Try.func15 (by kernel_rfl) (c := bodyOf Try.f15) (by kernel_rfl)
theorem eo_hEncode (s : Int → Int → List UInt8 → Int → Int → Int → Int → Int → List V → Option (List UInt8 × Int)) (hs : ∀ (x0 : Int) (x1 : Int) (x2 : List UInt8) (x3 : Int) (x4 : Int) (x5 : Int) (x6 : Int) (x7 : Int) (x8 : List V) (r0 : List UInt8) (r1 : Int), s x0 x1 x2 x3 x4 x5 x6 x7 x8 = some (r0, r1) → PureRet Try.prog T 15 [.agg [.v (.int .i64 x0) .no, .v (.int .i64 x1) .no, .v (.bytes x2) .no, .v (.int .i64 x3) .no, .v (.int .i64 x4) .no, .v (.int .i64 x5) .no, .v (.int .i64 x6) .no, .v (.int .i64 x7) .no, .v (.sl 48 x8) .no]] [.v (.bytes r0) .no, .v (.int .i64 r1) .no]) : EntOK Try.prog T ⟨15, e_hEncode s⟩ := by
  refine ⟨go_hEncode, fun R ds K r h => ?_, fun R ds K => ?_⟩
  · simp only [e_hEncode] at h
    split at h
    · obtain ⟨r0, r1, h1, h2⟩ := bnd2_some h
      exact ⟨_, h2, hs _ _ _ _ _ _ _ _ _ _ _ h1⟩
    · cases h
  · simp only [e_hEncode]
    split
    · rw [bnd2_b]; rfl
    · rfl
theorem co_hEncode (N : Nat) : CxOK Try.prog (cx_hEncode N) :=
  cxOK_of2 (es := [⟨12, e_hCheck (s_hCheck N)⟩, ⟨43, e_hobject (s_hobject N)⟩, ⟨42, e_rEncode (s_rEncode N)⟩]) (me := []) (ms := []) T_ok ⟨eo_hCheck _ (p_hCheck N), eo_hobject _ (p_hobject N), eo_rEncode _ (p_rEncode N), trivial⟩ trivial trivial rfl (fun _ _ _ _ => rfl) (fun _ _ _ _ _ _ => rfl) rfl
theorem lo_hEncode (N : Nat) : LoopsOK (cx_hEncode N) Try.f15.ntmps (bodyOf Try.f15) :=
  loopsOK_of (k := 0) (by kernel_rfl) trivial
theorem p_hEncode (N : Nat) (x0 : Int) (x1 : Int) (x2 : List UInt8) (x3 : Int) (x4 : Int) (x5 : Int) (x6 : Int) (x7 : Int) (x8 : List V) (r0 : List UInt8) (r1 : Int) (h : s_hEncode N x0 x1 x2 x3 x4 x5 x6 x7 x8 = some (r0, r1)) : PureRet Try.prog T 15 [.agg [.v (.int .i64 x0) .no, .v (.int .i64 x1) .no, .v (.bytes x2) .no, .v (.int .i64 x3) .no, .v (.int .i64 x4) .no, .v (.int .i64 x5) .no, .v (.int .i64 x6) .no, .v (.int .i64 x7) .no, .v (.sl 48 x8) .no]] [.v (.bytes r0) .no, .v (.int .i64 r1) .no] :=
  pure_of (cx := cx_hEncode N) (by kernel_rfl) (co_hEncode N) Try.func15 (by kernel_rfl) (by kernel_rfl) (lo_hEncode N) rfl rfl rfl (rf := r_hEncode) ((s_hEncode_ok N x0 x1 x2 x3 x4 x5 x6 x7 x8).trans h) (fun rs' m h => by
    unfold r_hEncode at h
    split at h
    · cases h; exact ⟨rfl, rfl⟩
    · cases h)
noncomputable def e_hNext {R : Type} (s : Int → Int → Option (Int × Int)) (ds : List D) (K : List D → Option R) : Option R :=
  match ds with
  | [.v (.int .i64 x0) .no, .v (.int .i64 x1) .no] => bnd2 (s x0 x1) fun r0 r1 => K [.v (.int .i64 r0) .no, .v (.int .i64 r1) .no]
  | _ => none
noncomputable def r_hNext (rs : List D) (_ : Mem) : Option (Int × Int) :=
  match rs with
  | [.v (.int .i64 r0) _, .v (.int .i64 r1) _] => some (r0, r1)
  | _ => none
noncomputable def s_hNext (N : Nat) (x0 : Int) (x1 : Int) : Option (Int × Int) :=
  br (!decide (x1 = 32))
  (br (!decide (x1 = 64))
    (br (!decide (x1 = 128)) (some (0, 1))
      (br (decide (x0 < 1)) (some (0, 2))
        (br (decide (3 < x0)) (some (0, 2))
          (br (decide (x1 = 32))
            (br (decide (x0 = 2)) (some (1, 0))
              (br (decide (x1 = 64)) (br (decide (x0 = 1)) (some (2, 0)) (br (decide (x1 = 128)) (br (!decide (x0 = 3)) (some (3, 0)) (some (0, 14))) (some (0, 14))))
                (br (decide (x1 = 128)) (br (!decide (x0 = 3)) (some (3, 0)) (some (0, 14))) (some (0, 14)))))
            (br (decide (x1 = 64)) (br (decide (x0 = 1)) (some (2, 0)) (br (decide (x1 = 128)) (br (!decide (x0 = 3)) (some (3, 0)) (some (0, 14))) (some (0, 14))))
              (br (decide (x1 = 128)) (br (!decide (x0 = 3)) (some (3, 0)) (some (0, 14))) (some (0, 14))))))))
    (br (decide (x0 < 1)) (some (0, 2))
      (br (decide (3 < x0)) (some (0, 2))
        (br (decide (x1 = 32))
          (br (decide (x0 = 2)) (some (1, 0))
            (br (decide (x1 = 64)) (br (decide (x0 = 1)) (some (2, 0)) (br (decide (x1 = 128)) (br (!decide (x0 = 3)) (some (3, 0)) (some (0, 14))) (some (0, 14))))
              (br (decide (x1 = 128)) (br (!decide (x0 = 3)) (some (3, 0)) (some (0, 14))) (some (0, 14)))))
          (br (decide (x1 = 64)) (br (decide (x0 = 1)) (some (2, 0)) (br (decide (x1 = 128)) (br (!decide (x0 = 3)) (some (3, 0)) (some (0, 14))) (some (0, 14))))
            (br (decide (x1 = 128)) (br (!decide (x0 = 3)) (some (3, 0)) (some (0, 14))) (some (0, 14))))))))
  (br (decide (x0 < 1)) (some (0, 2))
    (br (decide (3 < x0)) (some (0, 2))
      (br (decide (x1 = 32))
        (br (decide (x0 = 2)) (some (1, 0))
          (br (decide (x1 = 64)) (br (decide (x0 = 1)) (some (2, 0)) (br (decide (x1 = 128)) (br (!decide (x0 = 3)) (some (3, 0)) (some (0, 14))) (some (0, 14))))
            (br (decide (x1 = 128)) (br (!decide (x0 = 3)) (some (3, 0)) (some (0, 14))) (some (0, 14)))))
        (br (decide (x1 = 64)) (br (decide (x0 = 1)) (some (2, 0)) (br (decide (x1 = 128)) (br (!decide (x0 = 3)) (some (3, 0)) (some (0, 14))) (some (0, 14))))
          (br (decide (x1 = 128)) (br (!decide (x0 = 3)) (some (3, 0)) (some (0, 14))) (some (0, 14)))))))
noncomputable def cx_hNext (N : Nat) : Cx := { T := T, isPure := tabP [], pureK := fun g ds K => tabK [] g ds K, memK := fun g dst ds m K => tabMK [] g dst ds m K, meth := tabM [], keep := fun _ => [], keepX := fun _ => [], loopT := fun _ _ _ _ => none, jumps := 9 }
theorem s_hNext_ok (N : Nat) (x0 : Int) (x1 : Int) : bodyK (cx_hNext N) Try.f20 [.v (.int .i64 x0) .no, .v (.int .i64 x1) .no] [] r_hNext = s_hNext N x0 x1 := by
  kernel_rfl
theorem go_hNext : Goes Try.prog 20 := goes_of Try.func20 (by kernel_rfl) (c := bodyOf Try.f20) (by kernel_rfl)
theorem eo_hNext (s : Int → Int → Option (Int × Int)) (hs : ∀ (x0 : Int) (x1 : Int) (r0 : Int) (r1 : Int), s x0 x1 = some (r0, r1) → PureRet Try.prog T 20 [.v (.int .i64 x0) .no, .v (.int .i64 x1) .no] [.v (.int .i64 r0) .no, .v (.int .i64 r1) .no]) : EntOK Try.prog T ⟨20, e_hNext s⟩ := by
  refine ⟨go_hNext, fun R ds K r h => ?_, fun R ds K => ?_⟩
  · simp only [e_hNext] at h
    split at h
    · obtain ⟨r0, r1, h1, h2⟩ := bnd2_some h
      exact ⟨_, h2, hs _ _ _ _ h1⟩
    · cases h
  · simp only [e_hNext]
    split
    · rw [bnd2_b]; rfl
    · rfl
theorem co_hNext (N : Nat) : CxOK Try.prog (cx_hNext N) :=
  cxOK_of2 (es := []) (me := []) (ms := []) T_ok trivial trivial trivial rfl (fun _ _ _ _ => rfl) (fun _ _ _ _ _ _ => rfl) rfl
theorem lo_hNext (N : Nat) : LoopsOK (cx_hNext N) Try.f20.ntmps (bodyOf Try.f20) :=
  loopsOK_of (k := 0) (by kernel_rfl) trivial
theorem p_hNext (N : Nat) (x0 : Int) (x1 : Int) (r0 : Int) (r1 : Int) (h : s_hNext N x0 x1 = some (r0, r1)) : PureRet Try.prog T 20 [.v (.int .i64 x0) .no, .v (.int .i64 x1) .no] [.v (.int .i64 r0) .no, .v (.int .i64 r1) .no] :=
  pure_of (cx := cx_hNext N) (by kernel_rfl) (co_hNext N) Try.func20 (by kernel_rfl) (by kernel_rfl) (lo_hNext N) rfl rfl rfl (rf := r_hNext) ((s_hNext_ok N x0 x1).trans h) (fun rs' m h => by
    unfold r_hNext at h
    split at h
    · cases h; exact ⟨rfl, rfl⟩
    · cases h)
noncomputable def e_hBytes {R : Type} (s : Int → Int → List UInt8 → Int → Int → Int → Int → Int → List V → Option (Int)) (ds : List D) (K : List D → Option R) : Option R :=
  match ds with
  | [.agg [.v (.int .i64 x0) .no, .v (.int .i64 x1) .no, .v (.bytes x2) .no, .v (.int .i64 x3) .no, .v (.int .i64 x4) .no, .v (.int .i64 x5) .no, .v (.int .i64 x6) .no, .v (.int .i64 x7) .no, .v (.sl 48 x8) .no]] => bnd1 (s x0 x1 x2 x3 x4 x5 x6 x7 x8) fun r0 => K [.v (.int .i64 r0) .no]
  | _ => none
noncomputable def r_hBytes (rs : List D) (_ : Mem) : Option (Int) :=
  match rs with
  | [.v (.int .i64 r0) _] => some (r0)
  | _ => none
noncomputable def s_hBytes (N : Nat) (x0 : Int) (x1 : Int) (x2 : List UInt8) (x3 : Int) (x4 : Int) (x5 : Int) (x6 : Int) (x7 : Int) (x8 : List V) : Option (Int) :=
  bnd1 (s_hCheck N x0 x1 x2 x3 x4 x5 x6 x7 x8) fun n0 => br (!decide (n0 = 0)) (some 0) (br (decide (x1 = 2)) (some x4) (some (IntKind.i64.wrap (x5 * x6))))
noncomputable def cx_hBytes (N : Nat) : Cx := { T := T, isPure := tabP [⟨12, e_hCheck (s_hCheck N)⟩], pureK := fun g ds K => tabK [⟨12, e_hCheck (s_hCheck N)⟩] g ds K, memK := fun g dst ds m K => tabMK [] g dst ds m K, meth := tabM [], keep := fun _ => [], keepX := fun _ => [], loopT := fun _ _ _ _ => none, jumps := 9 }
theorem s_hBytes_ok (N : Nat) (x0 : Int) (x1 : Int) (x2 : List UInt8) (x3 : Int) (x4 : Int) (x5 : Int) (x6 : Int) (x7 : Int) (x8 : List V) : bodyK (cx_hBytes N) Try.f18 [.agg [.v (.int .i64 x0) .no, .v (.int .i64 x1) .no, .v (.bytes x2) .no, .v (.int .i64 x3) .no, .v (.int .i64 x4) .no, .v (.int .i64 x5) .no, .v (.int .i64 x6) .no, .v (.int .i64 x7) .no, .v (.sl 48 x8) .no]] [] r_hBytes = s_hBytes N x0 x1 x2 x3 x4 x5 x6 x7 x8 := by
  kernel_rfl
theorem go_hBytes : Goes Try.prog 18 := goes_of Try.func18 (by kernel_rfl) (c := bodyOf Try.f18) (by kernel_rfl)
theorem eo_hBytes (s : Int → Int → List UInt8 → Int → Int → Int → Int → Int → List V → Option (Int)) (hs : ∀ (x0 : Int) (x1 : Int) (x2 : List UInt8) (x3 : Int) (x4 : Int) (x5 : Int) (x6 : Int) (x7 : Int) (x8 : List V) (r0 : Int), s x0 x1 x2 x3 x4 x5 x6 x7 x8 = some r0 → PureRet Try.prog T 18 [.agg [.v (.int .i64 x0) .no, .v (.int .i64 x1) .no, .v (.bytes x2) .no, .v (.int .i64 x3) .no, .v (.int .i64 x4) .no, .v (.int .i64 x5) .no, .v (.int .i64 x6) .no, .v (.int .i64 x7) .no, .v (.sl 48 x8) .no]] [.v (.int .i64 r0) .no]) : EntOK Try.prog T ⟨18, e_hBytes s⟩ := by
  refine ⟨go_hBytes, fun R ds K r h => ?_, fun R ds K => ?_⟩
  · simp only [e_hBytes] at h
    split at h
    · obtain ⟨r0, h1, h2⟩ := bnd1_some h
      exact ⟨_, h2, hs _ _ _ _ _ _ _ _ _ _ h1⟩
    · cases h
  · simp only [e_hBytes]
    split
    · rw [bnd1_b]; rfl
    · rfl
theorem co_hBytes (N : Nat) : CxOK Try.prog (cx_hBytes N) :=
  cxOK_of2 (es := [⟨12, e_hCheck (s_hCheck N)⟩]) (me := []) (ms := []) T_ok ⟨eo_hCheck _ (p_hCheck N), trivial⟩ trivial trivial rfl (fun _ _ _ _ => rfl) (fun _ _ _ _ _ _ => rfl) rfl
theorem lo_hBytes (N : Nat) : LoopsOK (cx_hBytes N) Try.f18.ntmps (bodyOf Try.f18) :=
  loopsOK_of (k := 0) (by kernel_rfl) trivial
theorem p_hBytes (N : Nat) (x0 : Int) (x1 : Int) (x2 : List UInt8) (x3 : Int) (x4 : Int) (x5 : Int) (x6 : Int) (x7 : Int) (x8 : List V) (r0 : Int) (h : s_hBytes N x0 x1 x2 x3 x4 x5 x6 x7 x8 = some r0) : PureRet Try.prog T 18 [.agg [.v (.int .i64 x0) .no, .v (.int .i64 x1) .no, .v (.bytes x2) .no, .v (.int .i64 x3) .no, .v (.int .i64 x4) .no, .v (.int .i64 x5) .no, .v (.int .i64 x6) .no, .v (.int .i64 x7) .no, .v (.sl 48 x8) .no]] [.v (.int .i64 r0) .no] :=
  pure_of (cx := cx_hBytes N) (by kernel_rfl) (co_hBytes N) Try.func18 (by kernel_rfl) (by kernel_rfl) (lo_hBytes N) rfl rfl rfl (rf := r_hBytes) ((s_hBytes_ok N x0 x1 x2 x3 x4 x5 x6 x7 x8).trans h) (fun rs' m h => by
    unfold r_hBytes at h
    split at h
    · cases h; exact ⟨rfl, rfl⟩
    · cases h)
noncomputable def e_hSame {R : Type} (s : Int → Int → List UInt8 → Int → Int → Int → Int → Int → List V → Int → Int → List UInt8 → Int → Int → Int → Int → Int → List V → Option (Bool)) (ds : List D) (K : List D → Option R) : Option R :=
  match ds with
  | [.agg [.v (.int .i64 x0) .no, .v (.int .i64 x1) .no, .v (.bytes x2) .no, .v (.int .i64 x3) .no, .v (.int .i64 x4) .no, .v (.int .i64 x5) .no, .v (.int .i64 x6) .no, .v (.int .i64 x7) .no, .v (.sl 48 x8) .no], .agg [.v (.int .i64 x9) .no, .v (.int .i64 x10) .no, .v (.bytes x11) .no, .v (.int .i64 x12) .no, .v (.int .i64 x13) .no, .v (.int .i64 x14) .no, .v (.int .i64 x15) .no, .v (.int .i64 x16) .no, .v (.sl 48 x17) .no]] => bnd1 (s x0 x1 x2 x3 x4 x5 x6 x7 x8 x9 x10 x11 x12 x13 x14 x15 x16 x17) fun r0 => K [.v (.bool r0) .no]
  | _ => none
noncomputable def r_hSame (rs : List D) (_ : Mem) : Option (Bool) :=
  match rs with
  | [.v (.bool r0) _] => some (r0)
  | _ => none
noncomputable def s_hSame (N : Nat) (x0 : Int) (x1 : Int) (x2 : List UInt8) (x3 : Int) (x4 : Int) (x5 : Int) (x6 : Int) (x7 : Int) (x8 : List V) (x9 : Int) (x10 : Int) (x11 : List UInt8) (x12 : Int) (x13 : Int) (x14 : Int) (x15 : Int) (x16 : Int) (x17 : List V) : Option (Bool) :=
  br (decide (x0 = x9))
  (br (decide (x1 = x10))
    (bnd1 (s_oSame N x2 x11) fun b0 =>
      br b0
        (br (decide (x3 = x12)) (br (decide (x4 = x13)) (br (decide (x5 = x14)) (br (decide (x6 = x15)) (br (decide (x7 = x16)) (bnd1 (s_qSame N x8 x17) fun b1 => some b1) (some false)) (some false)) (some false)) (some false))
          (some false))
        (some false))
    (some false))
  (some false)
noncomputable def cx_hSame (N : Nat) : Cx := { T := T, isPure := tabP [⟨16, e_oSame (s_oSame N)⟩, ⟨21, e_qSame (s_qSame N)⟩], pureK := fun g ds K => tabK [⟨16, e_oSame (s_oSame N)⟩, ⟨21, e_qSame (s_qSame N)⟩] g ds K, memK := fun g dst ds m K => tabMK [] g dst ds m K, meth := tabM [], keep := fun _ => [], keepX := fun _ => [], loopT := fun _ _ _ _ => none, jumps := 9 }
theorem s_hSame_ok (N : Nat) (x0 : Int) (x1 : Int) (x2 : List UInt8) (x3 : Int) (x4 : Int) (x5 : Int) (x6 : Int) (x7 : Int) (x8 : List V) (x9 : Int) (x10 : Int) (x11 : List UInt8) (x12 : Int) (x13 : Int) (x14 : Int) (x15 : Int) (x16 : Int) (x17 : List V) : bodyK (cx_hSame N) Try.f23 [.agg [.v (.int .i64 x0) .no, .v (.int .i64 x1) .no, .v (.bytes x2) .no, .v (.int .i64 x3) .no, .v (.int .i64 x4) .no, .v (.int .i64 x5) .no, .v (.int .i64 x6) .no, .v (.int .i64 x7) .no, .v (.sl 48 x8) .no], .agg [.v (.int .i64 x9) .no, .v (.int .i64 x10) .no, .v (.bytes x11) .no, .v (.int .i64 x12) .no, .v (.int .i64 x13) .no, .v (.int .i64 x14) .no, .v (.int .i64 x15) .no, .v (.int .i64 x16) .no, .v (.sl 48 x17) .no]] [] r_hSame = s_hSame N x0 x1 x2 x3 x4 x5 x6 x7 x8 x9 x10 x11 x12 x13 x14 x15 x16 x17 := by
  kernel_rfl
theorem go_hSame : Goes Try.prog 23 := goes_of Try.func23 (by kernel_rfl) (c := bodyOf Try.f23) (by kernel_rfl)
theorem eo_hSame (s : Int → Int → List UInt8 → Int → Int → Int → Int → Int → List V → Int → Int → List UInt8 → Int → Int → Int → Int → Int → List V → Option (Bool)) (hs : ∀ (x0 : Int) (x1 : Int) (x2 : List UInt8) (x3 : Int) (x4 : Int) (x5 : Int) (x6 : Int) (x7 : Int) (x8 : List V) (x9 : Int) (x10 : Int) (x11 : List UInt8) (x12 : Int) (x13 : Int) (x14 : Int) (x15 : Int) (x16 : Int) (x17 : List V) (r0 : Bool), s x0 x1 x2 x3 x4 x5 x6 x7 x8 x9 x10 x11 x12 x13 x14 x15 x16 x17 = some r0 → PureRet Try.prog T 23 [.agg [.v (.int .i64 x0) .no, .v (.int .i64 x1) .no, .v (.bytes x2) .no, .v (.int .i64 x3) .no, .v (.int .i64 x4) .no, .v (.int .i64 x5) .no, .v (.int .i64 x6) .no, .v (.int .i64 x7) .no, .v (.sl 48 x8) .no], .agg [.v (.int .i64 x9) .no, .v (.int .i64 x10) .no, .v (.bytes x11) .no, .v (.int .i64 x12) .no, .v (.int .i64 x13) .no, .v (.int .i64 x14) .no, .v (.int .i64 x15) .no, .v (.int .i64 x16) .no, .v (.sl 48 x17) .no]] [.v (.bool r0) .no]) : EntOK Try.prog T ⟨23, e_hSame s⟩ := by
  refine ⟨go_hSame, fun R ds K r h => ?_, fun R ds K => ?_⟩
  · simp only [e_hSame] at h
    split at h
    · obtain ⟨r0, h1, h2⟩ := bnd1_some h
      exact ⟨_, h2, hs _ _ _ _ _ _ _ _ _ _ _ _ _ _ _ _ _ _ _ h1⟩
    · cases h
  · simp only [e_hSame]
    split
    · rw [bnd1_b]; rfl
    · rfl
theorem co_hSame (N : Nat) : CxOK Try.prog (cx_hSame N) :=
  cxOK_of2 (es := [⟨16, e_oSame (s_oSame N)⟩, ⟨21, e_qSame (s_qSame N)⟩]) (me := []) (ms := []) T_ok ⟨eo_oSame _ (p_oSame N), eo_qSame _ (p_qSame N), trivial⟩ trivial trivial rfl (fun _ _ _ _ => rfl) (fun _ _ _ _ _ _ => rfl) rfl
theorem lo_hSame (N : Nat) : LoopsOK (cx_hSame N) Try.f23.ntmps (bodyOf Try.f23) :=
  loopsOK_of (k := 0) (by kernel_rfl) trivial
theorem p_hSame (N : Nat) (x0 : Int) (x1 : Int) (x2 : List UInt8) (x3 : Int) (x4 : Int) (x5 : Int) (x6 : Int) (x7 : Int) (x8 : List V) (x9 : Int) (x10 : Int) (x11 : List UInt8) (x12 : Int) (x13 : Int) (x14 : Int) (x15 : Int) (x16 : Int) (x17 : List V) (r0 : Bool) (h : s_hSame N x0 x1 x2 x3 x4 x5 x6 x7 x8 x9 x10 x11 x12 x13 x14 x15 x16 x17 = some r0) : PureRet Try.prog T 23 [.agg [.v (.int .i64 x0) .no, .v (.int .i64 x1) .no, .v (.bytes x2) .no, .v (.int .i64 x3) .no, .v (.int .i64 x4) .no, .v (.int .i64 x5) .no, .v (.int .i64 x6) .no, .v (.int .i64 x7) .no, .v (.sl 48 x8) .no], .agg [.v (.int .i64 x9) .no, .v (.int .i64 x10) .no, .v (.bytes x11) .no, .v (.int .i64 x12) .no, .v (.int .i64 x13) .no, .v (.int .i64 x14) .no, .v (.int .i64 x15) .no, .v (.int .i64 x16) .no, .v (.sl 48 x17) .no]] [.v (.bool r0) .no] :=
  pure_of (cx := cx_hSame N) (by kernel_rfl) (co_hSame N) Try.func23 (by kernel_rfl) (by kernel_rfl) (lo_hSame N) rfl rfl rfl (rf := r_hSame) ((s_hSame_ok N x0 x1 x2 x3 x4 x5 x6 x7 x8 x9 x10 x11 x12 x13 x14 x15 x16 x17).trans h) (fun rs' m h => by
    unfold r_hSame at h
    split at h
    · cases h; exact ⟨rfl, rfl⟩
    · cases h)
end Go.Proofs.Ytllnklkjkjmjbaa.En

/- The printed functions, together. -/

/- Words for the plain laws: branches, numbers, bits, places in a list. No program in sight. -/
namespace Go.Proofs.Ytllnklkjkjmjbaa.En
open Go
set_option linter.unusedVariables false
section
variable {R α β γ δ : Type}
theorem br_t (x y : Option R) : br true x y = x := id rfl
theorem br_f (x y : Option R) : br false x y = y := id rfl
theorem br_dec (p : Prop) [Decidable p] (x y : Option R) : br (decide p) x y = if p then x else y := by
  by_cases h : p <;> simp [br, h]
theorem br_not (c : Bool) (x y : Option R) : br (!c) x y = br c y x := by cases c <;> rfl
theorem br_and (a b : Bool) (x y : Option R) : br (a && b) x y = br a (br b x y) y := by cases a <;> rfl
theorem br_or (a b : Bool) (x y : Option R) : br (a || b) x y = br a x (br b x y) := by cases a <;> rfl
theorem bnd1_mk (a : α) (K : α → Option R) : bnd1 (some a) K = K a := id rfl
theorem bnd2_mk (a : α) (b : β) (K : α → β → Option R) : bnd2 (some (a, b)) K = K a b := id rfl
theorem bnd3_mk (a : α) (b : β) (c : γ) (K : α → β → γ → Option R) : bnd3 (some (a, b, c)) K = K a b c := id rfl
theorem bnd4_mk (a : α) (b : β) (c : γ) (d : δ) (K : α → β → γ → δ → Option R) : bnd4 (some (a, b, c, d)) K = K a b c d := id rfl
theorem bnd5_mk {ε : Type} (a : α) (b : β) (c : γ) (d : δ) (e : ε) (K : α → β → γ → δ → ε → Option R) : bnd5 (some (a, b, c, d, e)) K = K a b c d e := id rfl
theorem at_of {xs : List α} {i : Nat} {x : α} (h : xs[i]? = some x) (K : α → Option R) : at? xs i K = K x := by simp [at?, h]
theorem at_zero (x : α) (r : List α) (K : α → Option R) : at? (x :: r) 0 K = K x := id rfl
theorem at_succ (x : α) (r : List α) (i : Nat) (K : α → Option R) : at? (x :: r) (i + 1) K = at? r i K := by simp [at?]
theorem at_mid (pre : List α) (x : α) (suf : List α) (K : α → Option R) : at? (pre ++ x :: suf) pre.length K = K x := at_of (by simp) K
theorem unInt_mk (k : IntKind) (n : Int) (K : Int → Option R) : V.unInt k (.int k n) K = K n := by simp [V.unInt]
theorem unBool_mk (b : Bool) (K : Bool → Option R) : V.unBool (.bool b) K = K b := id rfl
theorem unStr_mk (s : List UInt8) (K : List UInt8 → Option R) : V.unStr (.str s) K = K s := id rfl
theorem unBytes_mk (s : List UInt8) (K : List UInt8 → Option R) : V.unBytes (.bytes s) K = K s := id rfl
theorem unSl_mk (e : TypeId) (s : List V) (K : List V → Option R) : V.unSl e (.sl e s) K = K s := by simp [V.unSl]
theorem unAgg_mk (s : List V) (K : List V → Option R) : V.unAgg (.agg s) K = K s := id rfl
theorem unCons_mk (x : V) (r : List V) (K : V → List V → Option R) : unCons (x :: r) K = K x r := id rfl
theorem unNil_mk (K : Option R) : unNil [] K = K := id rfl
end
/-! Numbers -/
theorem w64 {n : Int} (h1 : -9223372036854775808 ≤ n) (h2 : n ≤ 9223372036854775807) : IntKind.i64.wrap n = n := by
  rw [IntKind.wrap_i64]; omega
theorem wu8 (n : Int) : IntKind.u8.wrap n = n % 256 := IntKind.wrap_u8 n
theorem ofInt_toNat64 (a : Int) : (BitVec.ofInt 64 a).toNat = (a % 18446744073709551616).toNat := by
  rw [BitVec.toNat_ofInt]; rfl
theorem fdiv_pos (a b : Int) (h : 0 < b) : a.fdiv b = a / b := by rw [Int.fdiv_eq_ediv_of_nonneg _ (by omega)]
theorem shr8 (a : Int) : shrI .i64 a 8 = a / 256 := by
  show a.fdiv (2 ^ (min (8 : Int).toNat 64)) = _
  exact fdiv_pos a 256 (by omega)
/-- a & (2^k - 1) -/
theorem and_mask (a : Int) (k : Nat) (hk : k ≤ 62) : bitsI .and .i64 a ((2 ^ k - 1 : Nat) : Int) = a % (2 ^ k : Nat) := by
  have hp : (2 ^ k : Nat) ≤ 2 ^ 62 := Nat.pow_le_pow_right (by omega) hk
  have h0 : 0 < 2 ^ k := Nat.pos_of_ne_zero (by simp)
  have e1 : (BitVec.ofInt 64 ((2 ^ k - 1 : Nat) : Int)).toNat = 2 ^ k - 1 := by
    rw [ofInt_toNat64]; omega
  have e2 : (BitVec.ofInt 64 a &&& BitVec.ofInt 64 ((2 ^ k - 1 : Nat) : Int)).toNat = (a % 18446744073709551616).toNat % 2 ^ k := by
    rw [BitVec.toNat_and, e1, ofInt_toNat64, Nat.and_two_pow_sub_one_eq_mod]
  have hd : (2 ^ k : Nat) ∣ 18446744073709551616 := by
    have : (18446744073709551616 : Nat) = 2 ^ 64 := by decide
    rw [this]; exact Nat.pow_dvd_pow 2 (by omega)
  have e3 : ((((a % 18446744073709551616).toNat % 2 ^ k : Nat)) : Int) = a % (2 ^ k : Nat) := by
    rw [Int.natCast_emod]
    rw [Int.toNat_of_nonneg (Int.emod_nonneg _ (by omega))]
    have hd' : ((2 ^ k : Nat) : Int) ∣ ((18446744073709551616 : Nat) : Int) := Int.natCast_dvd_natCast.2 hd
    exact Int.emod_emod_of_dvd a hd'
  show IntKind.i64.wrap ((BitVec.ofInt 64 a &&& BitVec.ofInt 64 _).toNat : Int) = _
  rw [e2, e3]
  have := Int.emod_nonneg a (b := ((2 ^ k : Nat) : Int)) (by omega)
  have := Int.emod_lt_of_pos a (b := ((2 ^ k : Nat) : Int)) (by omega)
  exact w64 (by omega) (by omega)
theorem and31 (a : Int) : bitsI .and .i64 a 31 = a % 32 := and_mask a 5 (by omega)
theorem and255 (a : Int) : bitsI .and .i64 a 255 = a % 256 := and_mask a 8 (by omega)
theorem and_two_pow' (m k : Nat) : m &&& 2 ^ k = 2 ^ k * (m / 2 ^ k % 2) := by
  apply Nat.eq_of_testBit_eq
  intro i
  rw [Nat.testBit_and, Nat.testBit_two_pow, Nat.mul_comm, ← Nat.shiftLeft_eq, Nat.testBit_shiftLeft]
  have h2 : m / 2 ^ k % 2 = (m.testBit k).toNat := by
    rw [Nat.testBit_eq_decide_div_mod_eq]
    have : m / 2 ^ k % 2 < 2 := Nat.mod_lt _ (by omega)
    rcases (by omega : m / 2 ^ k % 2 = 0 ∨ m / 2 ^ k % 2 = 1) with h | h <;> simp [h]
  rw [h2]
  by_cases hk : k = i
  · subst hk; cases m.testBit k <;> simp
  · simp only [hk, decide_false, Bool.and_false]
    by_cases hl : k ≤ i
    · obtain ⟨j, rfl⟩ : ∃ j, i = k + (j + 1) := ⟨i - k - 1, by omega⟩
      rw [show k + (j + 1) - k = j + 1 by omega]
      cases m.testBit k <;> simp [Nat.testBit_succ]
    · simp [hl]
/-- a & 2^k -/
theorem and_bit (a : Int) (k : Nat) (hk : k ≤ 62) : bitsI .and .i64 a ((2 ^ k : Nat) : Int) = (2 ^ k : Nat) * (a / (2 ^ k : Nat) % 2) := by
  have hp : (2 ^ k : Nat) ≤ 2 ^ 62 := Nat.pow_le_pow_right (by omega) hk
  have h0 : 0 < 2 ^ k := Nat.pos_of_ne_zero (by simp)
  have e1 : (BitVec.ofInt 64 ((2 ^ k : Nat) : Int)).toNat = 2 ^ k := by rw [ofInt_toNat64]; omega
  generalize hm : (a % 18446744073709551616).toNat = m
  have e2 : (BitVec.ofInt 64 a &&& BitVec.ofInt 64 ((2 ^ k : Nat) : Int)).toNat = 2 ^ k * (m / 2 ^ k % 2) := by
    rw [BitVec.toNat_and, e1, ofInt_toNat64, hm, and_two_pow']
  have hd : (2 ^ (k + 1) : Nat) ∣ 18446744073709551616 := by
    have : (18446744073709551616 : Nat) = 2 ^ 64 := by decide
    rw [this]; exact Nat.pow_dvd_pow 2 (by omega)
  have e3 : ((m / 2 ^ k % 2 : Nat) : Int) = a / (2 ^ k : Nat) % 2 := by
    have hmi : (m : Int) = a % 18446744073709551616 := by rw [← hm, Int.toNat_of_nonneg (Int.emod_nonneg _ (by omega))]
    obtain ⟨q, hq⟩ := hd
    have hq' : (18446744073709551616 : Int) = ((2 ^ k : Nat) : Int) * (2 * (q : Int)) := by
      have : (18446744073709551616 : Nat) = 2 ^ k * (2 * q) := by rw [hq, Nat.pow_succ, Nat.mul_assoc]
      rw [show (18446744073709551616 : Int) = ((18446744073709551616 : Nat) : Int) by rfl, this]; push_cast; rfl
    rw [Int.natCast_emod, Int.natCast_ediv, hmi]
    have ha := Int.emod_add_mul_ediv a 18446744073709551616
    generalize a / 18446744073709551616 = z at ha
    have e : a = a % 18446744073709551616 + ((2 ^ k : Nat) : Int) * (2 * (q : Int) * z) := by
      rw [← Int.mul_assoc, ← hq']; omega
    conv => rhs; rw [e]
    rw [Int.add_mul_ediv_left _ _ (by omega)]
    rw [show (2 : Int) * (q : Int) * z = (q * z) * 2 by rw [Int.mul_assoc, Int.mul_comm]]
    exact (Int.add_mul_emod_self_right _ _ _).symm
  show IntKind.i64.wrap ((BitVec.ofInt 64 a &&& BitVec.ofInt 64 _).toNat : Int) = _
  rw [e2]
  have h2 : ((2 ^ k * (m / 2 ^ k % 2) : Nat) : Int) = (2 ^ k : Nat) * (a / (2 ^ k : Nat) % 2) := by rw [Int.natCast_mul, e3]
  rw [h2]
  have : a / ((2 ^ k : Nat) : Int) % 2 = 0 ∨ a / ((2 ^ k : Nat) : Int) % 2 = 1 := by omega
  rcases this with h | h <;> rw [h] <;> exact w64 (by omega) (by omega)
theorem and32 (a : Int) : bitsI .and .i64 a 32 = 32 * (a / 32 % 2) := and_bit a 5 (by omega)
end Go.Proofs.Ytllnklkjkjmjbaa.En

/- The engine, part 2r: what an argument that came in reads as. No program in sight. -/
namespace Go.Proofs.Ytllnklkjkjmjbaa.En
open Go Go.RowKit
set_option linter.unusedVariables false
/-- A world of arguments: nothing is written. -/
def immG (T : TypeId → Option Ty) : G := { Γ := fun _ => .imm, J := fun _ _ => 0, sz := sizes T }
theorem stable_imm (T : TypeId → Option Ty) (b o : Nat) : Stable (immG T) b o := trivial
/-- An element, given its cells. -/
def mkEl (row : Bool) (cs : List V) : V := match row with | true => .agg cs | false => cs.headD .nilI
/-- Cells that have the shape of a type. -/
def FitsFs (F : TypeId → List V → Prop) : List Field → List V → Prop
  | [], xs => xs = []
  | f :: fs, xs => ∃ a r, xs = a ++ r ∧ F f.type a ∧ FitsFs F fs r
def Fits (T : TypeId → Option Ty) : Nat → TypeId → List V → Prop
  | 0, _, _ => False
  | n + 1, t, xs => match T t with
    | none => False
    | some ty => match ty.desc with
      | .bool => ∃ b, xs = [.bool b]
      | .int k => ∃ i, xs = [.int k i] ∧ k.min ≤ i ∧ i ≤ k.max
      | .string => ∃ s, xs = [.str s] ∧ s.length ≤ maxLen
      | .slice e => match ty.cks with
        | [.bytes _] => ∃ s, xs = [.bytes s] ∧ s.length ≤ maxLen
        | [.slc e'] => e' = e ∧ ∃ ys, xs = [.sl e ys] ∧ ys.length ≤ maxLen ∧ ∀ y ∈ ys, ∃ te cs, T e = some te ∧ y = mkEl te.row cs ∧ Fits T n e cs
        | _ => False
      | .struct fs => FitsFs (Fits T n) fs.toList xs
      | _ => False
/-- A type that is read. -/
def readable (T : TypeId → Option Ty) (t : TypeId) : Bool :=
  match T t with
  | none => false
  | some ty => match ty.desc with
    | .bool => true
    | .int _ => true
    | .string => true
    | .slice e => (match T e with
      | none => false
      | some te => (match ty.cks with
        | [.bytes _] => (match te.desc with | .int .u8 => Nat.beq te.size 1 | _ => false)
        | [.slc e'] => Nat.beq e' e && Nat.ble 1 te.size && (match te.row with | true => true | false => Nat.beq te.size 1)
        | _ => false))
    | .struct fs => contigT T ty.size 0 fs.toList && fs.toList.all (fun f => match T f.type with | some _ => true | none => false)
    | _ => false
/-- The types that a type leads to. -/
def closedT (T : TypeId → Option Ty) (l : List TypeId) : Bool :=
  l.all fun t => readable T t && (match T t with
    | none => false
    | some ty => match ty.desc with
      | .slice e => l.any (Nat.beq e)
      | .struct fs => fs.toList.all fun f => l.any (Nat.beq f.type)
      | _ => true)
section
variable {H : Type} {enc : TypeId × Value → H} {P : Program} {T : TypeId → Option Ty} {w : World} {base : Nat} {spare : Nat → Bool} {held : Bool}
structure RepC (T : TypeId → Option Ty) (w : World) (xs : List V) (cs : List Value) : Prop where
  len : xs.length = cs.length
  one : ∀ x ∈ xs, x.one = true
  rep : ∀ (k : Nat) y, xs[k]? = some y → RepV (immG T) w y (cs.getD k undef)
theorem RepC.single {x : V} {v : Value} (h1 : x.one = true) (h : RepV (immG T) w x v) : RepC T w [x] [v] :=
  ⟨rfl, fun y hy => by simp at hy; subst hy; exact h1, fun k y hk => by
    rcases k with _ | k
    · simp at hk; subst hk; simpa using h
    · simp at hk⟩
theorem RepC.append {xs ys : List V} {cs ds : List Value} (h : RepC T w xs cs) (k : RepC T w ys ds) : RepC T w (xs ++ ys) (cs ++ ds) := by
  refine ⟨by simp [h.len, k.len], fun x hx => ?_, fun i y hy => ?_⟩
  · rcases List.mem_append.1 hx with hx | hx
    · exact h.one x hx
    · exact k.one x hx
  · rcases Nat.lt_or_ge i xs.length with hl | hl
    · rw [List.getElem?_append_left hl] at hy
      have := h.rep i y hy
      rw [List.getD_eq_getElem?_getD, List.getElem?_append_left (by rw [← h.len]; exact hl), ← List.getD_eq_getElem?_getD]
      exact this
    · rw [List.getElem?_append_right hl] at hy
      have := k.rep _ y hy
      rw [List.getD_eq_getElem?_getD, List.getElem?_append_right (by rw [← h.len]; exact hl), ← h.len, ← List.getD_eq_getElem?_getD]
      exact this
theorem cellsOf_eq (hT : TypesOK P T) {t : TypeId} {ty : Ty} (h : T t = some ty) : P.cellsOf t = ty.size := by
  obtain ⟨i, h1, _, h2, _⟩ := (hT t ty h).info
  simp [Program.cellsOf, h1, h2]
theorem sizes_eq {t : TypeId} {ty : Ty} (h : T t = some ty) : sizes T t = ty.size := by unfold sizes; rw [h]
theorem add_none (b off i : Nat) : (⟨b, off, none⟩ : Addr).add i = ⟨b, off + i, none⟩ := by
  unfold Addr.add
  by_cases h0 : i = 0
  · subst h0; rfl
  · rw [if_neg h0]
theorem spot_row {a : Addr} {n k : Nat} {cs : List Value} (h : w.cells? base (a.add (0 * n)) k = some cs) (hk : 0 < k) : a.spot = none := by
  obtain ⟨_, hl, h5⟩ := World.cells?_some h
  have h6 := h5 0 hk
  rw [List.getElem?_eq_getElem (by omega)] at h6
  have := World.cell?_spot h6
  simpa [Addr.add] using this
theorem mkEl_cells {row : Bool} {cs : List V} (ho : ∀ x ∈ cs, x.one = true) (h : row = false → cs.length = 1) : (mkEl row cs).cells = cs := by
  cases row with
  | true => rfl
  | false =>
    have := h rfl
    match cs, this with
    | [x], _ =>
      have := ho x (by simp)
      show V.cells x = [x]
      cases x <;> first | rfl | cases this
theorem okEl_mk {row : Bool} {cs : List V} {n : Nat} (hl : cs.length = n) (ho : ∀ x ∈ cs, x.one = true) (h : row = false → cs.length = 1) : okEl n (mkEl row cs) = true := by
  unfold okEl
  rw [mkEl_cells ho h]
  simp only [Bool.and_eq_true, beq_iff_eq, List.all_eq_true]
  exact ⟨hl, ho⟩
theorem flatT_get {α : Type} {n : Nat} : ∀ (l : List (List α)) (i j : Nat) (c : List α), (∀ c ∈ l, c.length = n) → l[i]? = some c → j < n → l.flatten[i * n + j]? = c[j]?
  | [], i, j, c, _, h, _ => by simp at h
  | d :: l, 0, j, c, hl, h, hj => by
    simp at h; subst h
    have := hl d (by simp)
    rw [List.flatten_cons, Nat.zero_mul, Nat.zero_add, List.getElem?_append_left (by omega)]
  | d :: l, i + 1, j, c, hl, h, hj => by
    have hd := hl d (by simp)
    rw [List.flatten_cons, Nat.succ_mul, List.getElem?_append_right (by omega)]
    rw [show i * n + n + j - d.length = i * n + j by omega]
    exact flatT_get l i j c (fun c hc => hl c (by simp [hc])) (by simpa using h) hj
theorem flatT_len {α : Type} {n : Nat} : ∀ (l : List (List α)), (∀ c ∈ l, c.length = n) → l.flatten.length = l.length * n
  | [], _ => by simp
  | d :: l, h => by
    rw [List.flatten_cons, List.length_append, h d (by simp), flatT_len l fun c hc => h c (by simp [hc]), List.length_cons, Nat.succ_mul]; omega
theorem choose_list {α : Type} {p : Nat → α → Prop} : ∀ (n : Nat), (∀ i, i < n → ∃ a, p i a) → ∃ l : List α, l.length = n ∧ ∀ (i : Nat) a, l[i]? = some a → p i a
  | 0, _ => ⟨[], rfl, fun i a h => by simp at h⟩
  | n + 1, h => by
    obtain ⟨l, h1, h2⟩ := choose_list n fun i hi => h i (by omega)
    obtain ⟨a, ha⟩ := h n (by omega)
    refine ⟨l ++ [a], by simp [h1], fun i b hb => ?_⟩
    rcases Nat.lt_or_ge i l.length with hl | hl
    · rw [List.getElem?_append_left hl] at hb; exact h2 i b hb
    · rw [List.getElem?_append_right hl] at hb
      have : i = n := by
        have := (List.getElem?_eq_some_iff.1 hb).1
        simp at this; omega
      subst this
      rw [h1] at hb
      simp at hb
      subst hb; exact ha
theorem trod_rep (hT : TypesOK P T) {l : List TypeId} (hl : closedT T l = true) : ∀ (fuel : Nat) (t : TypeId) (cs : List Value) (x : DataW H × List MemPlace), t ∈ l → DataW.trod enc P w base spare held fuel t cs = some x →
    ∃ xs, RepC T w xs cs ∧ Fits T fuel t xs ∧ ∀ ty, T t = some ty → cs.length = ty.size
  | 0, t, cs, x, _, h => by simp [DataW.trod] at h
  | n + 1, t, cs, x, hm, h => by
    have hcl := List.all_eq_true.1 hl t hm
    simp only [Bool.and_eq_true] at hcl
    obtain ⟨hre, hlead⟩ := hcl
    unfold Fits
    unfold readable at hre
    cases hTt : T t with
    | none => rw [hTt] at hre; simp at hre
    | some ty =>
    rw [hTt] at hre hlead
    simp only at hre hlead ⊢
    have hd := (hT t ty hTt).desc
    have h1c : ty.row = false → ty.size = 1 := (hT t ty hTt).one
    cases hdesc : ty.desc <;> rw [hdesc] at hre hlead hd <;> simp only [Bool.false_eq_true] at hre hlead ⊢
    · obtain ⟨b, rfl, _⟩ := DataW.trod_bool hd h
      exact ⟨[.bool b], .single rfl (.bool b), ⟨b, rfl⟩, fun ty' e => by cases e; rw [h1c (by simp [Ty.row, hdesc])]; rfl⟩
    · rename_i k
      obtain ⟨i, rfl, _, hwf⟩ := DataW.trod_int hd h
      have hb : k.min ≤ i ∧ i ≤ k.max := by simpa [Lit.wf] using hwf
      exact ⟨[.int k i], .single rfl (.int k i hb), ⟨i, rfl, hb⟩, fun ty' e => by cases e; rw [h1c (by simp [Ty.row, hdesc])]; rfl⟩
    · obtain ⟨s, rfl, _, hs⟩ := DataW.trod_string hd h
      have e : s = ⟨s.data.toList.toArray⟩ := by cases s; simp
      have hsl : s.data.toList.length = s.size := by cases s; rfl
      refine ⟨[.str s.data.toList], .single rfl ?_, ⟨_, rfl, by rw [hsl]; exact hs⟩, fun ty' e => by cases e; rw [h1c (by simp [Ty.row, hdesc])]; rfl⟩
      have := RepV.str (g := immG T) (w := w) s.data.toList (by rw [hsl]; unfold maxLen at hs; omega)
      rwa [← e] at this
    · rename_i e
      cases hTe : T e with
      | none => rw [hTe] at hre; simp at hre
      | some te =>
      rw [hTe] at hre
      simp only at hre
      have hsz := cellsOf_eq hT hTe
      have hmem : e ∈ l := by
        obtain ⟨z, hz, hb⟩ := List.any_eq_true.1 hlead
        have := Nat.eq_of_beq_eq_true hb
        subst this; exact hz
      have hsize : ∀ ty', some ty = some ty' → ∀ v : Value, [v].length = ty'.size := fun ty' e v => by cases e; rw [h1c (by simp [Ty.row, hdesc])]; rfl
      split at hre
      · rename_i e0 hcks
        split at hre
        · rename_i hte
          have hte1 := Nat.eq_of_beq_eq_true hre
          rw [hte1] at hsz
          have hde := (hT e te hTe).desc
          rw [hte] at hde
          rcases DataW.trod_slice hd h with ⟨rfl, _⟩ | ⟨a, len, cap, elems, rest, m, e1, rfl, _, hb, hlc, hcm, hel, hget, _, _⟩
          · exact ⟨[.bytes []], .single rfl (.bytes [] none 0 0 rfl (Nat.le_refl _) (by simp) (fun k x hx => by simp at hx)), ⟨[], rfl, by simp⟩, fun ty' e => hsize ty' e _⟩
          · have key : ∀ i, i < len → ∃ b : UInt8, ∃ bb off, a = ⟨bb, off, none⟩ ∧ w.cell? ⟨bb, off + i, none⟩ = some (.int .u8 (b.toNat : Int)) := by
              intro i hi
              have h2 := hget i hi
              rw [List.getElem?_eq_getElem (by rw [hel]; exact hi), Option.bind_eq_some_iff] at h2
              obtain ⟨cs, h3, h4⟩ := h2
              obtain ⟨z, rfl, _, hwf⟩ := DataW.trod_int hde h4
              rw [hsz, Nat.mul_one] at h3
              obtain ⟨_, _, h5⟩ := World.cells?_some h3
              have h6 := h5 0 (by omega)
              simp at h6
              have hzr : 0 ≤ z ∧ z ≤ 255 := by simpa [Lit.wf, IntKind.min, IntKind.max, IntKind.signed, IntKind.bits] using hwf
              have hspn : a.spot = none := by
                have h2 := hget 0 (by omega)
                rw [List.getElem?_eq_getElem (by omega), Option.bind_eq_some_iff] at h2
                obtain ⟨cs, h3, _⟩ := h2
                exact spot_row h3 (by omega)
              obtain ⟨bb, off, sp⟩ := a
              simp only at hspn
              subst hspn
              refine ⟨UInt8.ofNat z.toNat, bb, off, rfl, ?_⟩
              rw [add_none] at h6
              have hz2 : (off + i + 0) = off + i := rfl
              rw [show ((UInt8.ofNat z.toNat).toNat : Int) = z by rw [UInt8.toNat_ofNat', Nat.mod_eq_of_lt (by omega)]; omega]
              simpa [Addr.add] using h6
            obtain ⟨bs, b1, b2⟩ := choose_list len key
            refine ⟨[.bytes bs], .single rfl (.bytes bs (some a) len cap b1 hlc hcm fun k x hx => ?_), ⟨bs, rfl, by omega⟩, fun ty' e => hsize ty' e _⟩
            obtain ⟨bb, off, c1, c2⟩ := b2 k x hx
            exact ⟨bb, off, by rw [c1], stable_imm T _ _, c2⟩
        · cases hre
      · rename_i e0 hcks
        simp only [Bool.and_eq_true] at hre
        obtain ⟨⟨he0, hte1⟩, hrow⟩ := hre
        have he0 := Nat.eq_of_beq_eq_true he0
        have hte1 := Nat.le_of_ble_eq_true hte1
        have hrow1 : te.row = false → te.size = 1 := (hT e te hTe).one
        have hszs : (immG T).sz e = te.size := sizes_eq hTe
        rcases DataW.trod_slice hd h with ⟨rfl, _⟩ | ⟨a, len, cap, elems, rest, m, e1, rfl, _, hb, hlc, hcm, hel, hget, _, _⟩
        · exact ⟨[.sl e []], .single rfl (.sl e [] none 0 0 (fun _ => undef) rfl (Nat.le_refl _) (by simp) (by simp) (fun k y hy => by simp at hy) (fun k y hy => by simp at hy)), ⟨he0, [], rfl, by simp, by simp⟩, fun ty' e => hsize ty' e _⟩
        · obtain rfl : n = m := by omega
          have key : ∀ i, i < len → ∃ p : List V × List Value, RepC T w p.1 p.2 ∧ Fits T n e p.1 ∧ p.2.length = te.size ∧ ∃ bb off, a = ⟨bb, off, none⟩ ∧ ∀ j, j < te.size → w.cell? ⟨bb, off + (i * te.size + j), none⟩ = some (p.2.getD j undef) := by
            intro i hi
            have h2 := hget i hi
            rw [List.getElem?_eq_getElem (by rw [hel]; exact hi), Option.bind_eq_some_iff] at h2
            obtain ⟨cs, h3, h4⟩ := h2
            obtain ⟨xs, c1, c2, c3⟩ := trod_rep hT hl n e cs _ hmem h4
            have c3 := c3 te hTe
            rw [hsz] at h3
            obtain ⟨_, _, h5⟩ := World.cells?_some h3
            have hspn : a.spot = none := by
              have h2 := hget 0 (by omega)
              rw [List.getElem?_eq_getElem (by omega), Option.bind_eq_some_iff] at h2
              obtain ⟨cs, h3, _⟩ := h2
              exact spot_row h3 (by omega)
            obtain ⟨bb, off, sp⟩ := a
            simp only at hspn
            subst hspn
            refine ⟨(xs, cs), c1, c2, c3, bb, off, rfl, fun j hj => ?_⟩
            have h7 := h5 j hj
            rw [add_none, add_none, Nat.add_assoc] at h7
            rw [h7, List.getD_eq_getElem?_getD]
            show cs[j]? = some (cs[j]?.getD undef)
            rw [List.getElem?_eq_getElem (by omega)]; rfl
          obtain ⟨ps, b1, b2⟩ := choose_list len key
          have hxl : ∀ p ∈ ps, p.1.length = te.size ∧ ∀ x ∈ p.1, x.one = true := by
            intro p hp
            obtain ⟨i, hi⟩ := List.getElem?_of_mem hp
            obtain ⟨c1, _, c3, _⟩ := b2 i p hi
            exact ⟨by rw [c1.len, c3], c1.one⟩
          have hcells : ∀ p ∈ ps, (mkEl te.row p.1).cells = p.1 := fun p hp => mkEl_cells (hxl p hp).2 fun hr => by rw [(hxl p hp).1, hrow1 hr]
          have hflat : (ps.map fun p => mkEl te.row p.1).flatMap V.cells = (ps.map (·.1)).flatten := by
            rw [List.flatMap_def, List.map_map]
            congr 1
            exact List.map_congr_left fun p hp => hcells p hp
          have hall : ∀ c ∈ ps.map (·.1), c.length = te.size := fun c hc => by
            obtain ⟨p, hp, rfl⟩ := List.mem_map.1 hc
            exact (hxl p hp).1
          have hlook : ∀ (k : Nat) (y : V), ((ps.map fun p => mkEl te.row p.1).flatMap V.cells)[k]? = some y → ∃ i j p, k = i * te.size + j ∧ j < te.size ∧ ps[i]? = some p ∧ p.1[j]? = some y := by
            intro k y hk
            rw [hflat] at hk
            have hk1 := (List.getElem?_eq_some_iff.1 hk).1
            rw [flatT_len _ hall, List.length_map, b1] at hk1
            have hpos : 0 < te.size := by omega
            have hi : k / te.size < len := (Nat.div_lt_iff_lt_mul hpos).2 hk1
            have hj : k % te.size < te.size := Nat.mod_lt _ hpos
            have hkk : k = k / te.size * te.size + k % te.size := by rw [Nat.mul_comm]; exact (Nat.div_add_mod k te.size).symm
            have hp : ps[k / te.size]? = some (ps[k / te.size]'(by omega)) := List.getElem?_eq_getElem (by omega)
            refine ⟨k / te.size, k % te.size, _, hkk, hj, hp, ?_⟩
            rw [hkk] at hk
            rw [flatT_get _ _ _ _ hall (by rw [List.getElem?_map, hp]; rfl) hj] at hk
            exact hk
          refine ⟨[.sl e (ps.map fun p => mkEl te.row p.1)], .single rfl (.sl e _ (some a) len cap (fun k => ((ps.map (·.2)).flatten).getD k undef) (by simp [b1]) hlc hcm (fun x hx => ?_) (fun k y hk => ?_) (fun k y hk => ?_)), ⟨he0, _, rfl, by simp [b1]; omega, fun y hy => ?_⟩, fun ty' e => hsize ty' e _⟩
          · obtain ⟨p, hp, rfl⟩ := List.mem_map.1 hx
            rw [hszs]
            exact okEl_mk (hxl p hp).1 (hxl p hp).2 fun hr => by rw [(hxl p hp).1, hrow1 hr]
          · obtain ⟨i, j, p, rfl, hj, hp, hy⟩ := hlook k y hk
            obtain ⟨_, _, c3, bb, off, c4, c5⟩ := b2 i p hp
            refine ⟨bb, off, by rw [c4], stable_imm T _ _, ?_⟩
            rw [c5 j hj]
            have : (ps.map (·.2)).flatten[i * te.size + j]? = p.2[j]? := flatT_get _ _ _ _ (fun c hc => by
              obtain ⟨q, hq, rfl⟩ := List.mem_map.1 hc
              obtain ⟨i', hi'⟩ := List.getElem?_of_mem hq
              exact (b2 i' q hi').2.2.1) (by rw [List.getElem?_map, hp]; rfl) hj
            rw [List.getD_eq_getElem?_getD, List.getD_eq_getElem?_getD, this]
          · obtain ⟨i, j, p, rfl, hj, hp, hy⟩ := hlook k y hk
            obtain ⟨c1, _, c3, _⟩ := b2 i p hp
            have : (ps.map (·.2)).flatten[i * te.size + j]? = p.2[j]? := flatT_get _ _ _ _ (fun c hc => by
              obtain ⟨q, hq, rfl⟩ := List.mem_map.1 hc
              obtain ⟨i', hi'⟩ := List.getElem?_of_mem hq
              exact (b2 i' q hi').2.2.1) (by rw [List.getElem?_map, hp]; rfl) hj
            have := c1.rep j y hy
            rw [List.getD_eq_getElem?_getD] at this ⊢
            rwa [‹(ps.map (·.2)).flatten[i * te.size + j]? = p.2[j]?›]
          · obtain ⟨p, hp, rfl⟩ := List.mem_map.1 hy
            obtain ⟨i, hi⟩ := List.getElem?_of_mem hp
            exact ⟨te, p.1, rfl, rfl, (b2 i p hi).2.1⟩
      · cases hre
    · rename_i fs
      simp only [Bool.and_eq_true] at hre
      obtain ⟨hco, hfa⟩ := hre
      obtain ⟨ys, m, e1, _, hlen, _, hg⟩ := DataW.trod_struct hd h
      obtain rfl : n = m := by omega
      rw [cellsOf_eq hT hTt] at hlen
      have main : ∀ (l' : List Field) (i off : Nat), fs.toList.drop i = l' → contigT T ty.size off l' = true → off ≤ ty.size → ∃ xs, RepC T w xs (cs.drop off) ∧ FitsFs (Fits T n) l' xs := by
        intro l'
        induction l' with
        | nil =>
          intro i off hdr hc ho
          have := Nat.eq_of_beq_eq_true hc
          refine ⟨[], ⟨by simp; omega, by simp, by simp⟩, rfl⟩
        | cons f l' ih =>
          intro i off hdr hc ho
          simp only [contigT, Bool.and_eq_true] at hc
          obtain ⟨hc1, hc2⟩ := hc
          have hc1 := Nat.eq_of_beq_eq_true hc1
          have hfi : fs.toList[i]? = some f := by
            have : (fs.toList.drop i)[0]? = some f := by rw [hdr]; rfl
            simpa using this
          have hfm : f ∈ fs.toList := List.mem_of_getElem? hfi
          have h1 := List.all_eq_true.1 hfa f hfm
          have hfl : f.type ∈ l := by
            have := List.all_eq_true.1 hlead f hfm
            obtain ⟨z, hz, hb⟩ := List.any_eq_true.1 this
            have := Nat.eq_of_beq_eq_true hb
            rw [this]; exact hz
          cases hTf : T f.type with
          | none => rw [hTf] at h1; simp at h1
          | some tf =>
          have h2 := hg i f (by simpa using hfi)
          rw [cellsOf_eq hT hTf, hc1] at h2
          have hle : off + tf.size ≤ ty.size := by
            have : ∀ (l' : List Field) (off : Nat), contigT T ty.size off l' = true → off ≤ ty.size := by
              intro l'
              induction l' with
              | nil => intro off hc; have := Nat.eq_of_beq_eq_true hc; omega
              | cons f l' ih => intro off hc; simp only [contigT, Bool.and_eq_true] at hc; have := ih _ hc.2; omega
            have := this l' _ hc2
            rw [sizes_eq hTf] at this
            exact this
          have hys : i < ys.length := by
            cases hyi : ys[i]? with
            | none =>
              have hfi2 : i < fs.size := by
                have := (List.getElem?_eq_some_iff.1 hfi).1
                simpa using this
              have : ys.length = fs.size := by assumption
              rw [this]; exact hfi2
            | some y => exact (List.getElem?_eq_some_iff.1 hyi).1
          rw [List.getElem?_eq_getElem hys] at h2
          obtain ⟨xs, c1, c2, _⟩ := trod_rep hT hl n f.type _ _ hfl h2
          obtain ⟨rs, d1, d2⟩ := ih (i + 1) (off + sizes T f.type) (by rw [List.drop_add_one_eq_tail_drop, hdr]; rfl) hc2 (by rw [sizes_eq hTf]; exact hle)
          refine ⟨xs ++ rs, ?_, xs, rs, rfl, c2, d2⟩
          have := c1.append d1
          rw [sizes_eq hTf, ← List.drop_drop, List.take_append_drop] at this
          exact this
      obtain ⟨xs, c1, c2⟩ := main fs.toList 0 0 rfl hco (Nat.zero_le _)
      exact ⟨xs, by simpa using c1, c2, fun ty' e => by cases e; exact hlen⟩
/-- An argument. -/
theorem arg_rep (hT : TypesOK P T) {l : List TypeId} (hl : closedT T l = true) {t : TypeId} (ht : t ∈ l) {v : Value} {d : DataW H} {ps : List MemPlace} (hrow : ∀ ty, T t = some ty → (ty.row = true → ∃ cs, v = .agg cs) ∧ (ty.row = false → v.cells = #[v]))
    (hd : DataW.Trod enc P w base spare held t v d ps) : ∃ n x, Fits T n t (V.cells x) ∧ RepV (immG T) w x v ∧ ∀ ty, T t = some ty → x = mkEl ty.row (V.cells x) := by
  obtain ⟨fuel, hf⟩ := hd
  obtain ⟨xs, h1, h2, h3⟩ := trod_rep hT hl fuel t _ _ ht hf
  cases hTt : T t with
  | none => cases fuel <;> simp [Fits, hTt] at h2
  | some ty =>
  have h3 := h3 ty hTt
  obtain ⟨r1, r2⟩ := hrow ty hTt
  cases hr : ty.row with
  | true =>
    obtain ⟨cs, rfl⟩ := r1 hr
    refine ⟨fuel, .agg xs, h2, .agg xs cs (by rw [h1.len]; rfl) fun k y hk => ?_, fun ty' e => by cases e; rw [hr]; rfl⟩
    have := h1.rep k y hk
    simpa [Value.cells, List.getD_eq_getElem?_getD, Array.getD_eq_getD_getElem?] using this
  | false =>
    have hv := r2 hr
    rw [hv] at h1 h3
    have hl1 := h1.len
    simp at hl1
    match xs, hl1 with
    | [x], _ =>
      have ho := h1.one x (by simp)
      have hc : V.cells x = [x] := by cases x <;> first | rfl | cases ho
      exact ⟨fuel, x, by rw [hc]; exact h2, by simpa using h1.rep 0 x rfl, fun ty' e => by cases e; rw [hr, hc]; rfl⟩
end
end Go.Proofs.Ytllnklkjkjmjbaa.En

/- Conditions as plain data; the budget of the statements. -/
namespace Go.Proofs.Ytllnklkjkjmjbaa.En
open Go
set_option linter.unusedVariables false
/-- A list of conditions: the first one's operation, number and kids, and the rest of the list. -/
inductive Cl where
  | nil
  | cons (op n : Int) (kids : Cl) (rest : Cl)
  deriving DecidableEq
namespace Cl
def len : Cl → Nat
  | nil => 0
  | cons _ _ _ r => r.len + 1
def nodes : Cl → Nat
  | nil => 0
  | cons _ _ k r => k.nodes + r.nodes + 1
def enc : Cl → List V
  | nil => []
  | cons o n k r => .agg [.int .i64 o, .int .i64 n, .sl 46 k.enc] :: r.enc
def wf : Cl → Prop
  | nil => True
  | cons o n k r => (-9223372036854775808 ≤ o ∧ o ≤ 9223372036854775807) ∧ (-9223372036854775808 ≤ n ∧ n ≤ 9223372036854775807) ∧ k.len ≤ 9223372036854775807 ∧ k.wf ∧ r.wf
theorem enc_len : ∀ l : Cl, l.enc.length = l.len
  | nil => rfl
  | cons o n k r => by simp [enc, len, enc_len r]
theorem len_le : ∀ l : Cl, l.len ≤ l.nodes
  | nil => Nat.le_refl _
  | cons o n k r => by have := len_le r; simp only [len, nodes]; omega
end Cl
end Go.Proofs.Ytllnklkjkjmjbaa.En

/- Which conditions are valid: the reference. -/
namespace Go.Proofs.Ytllnklkjkjmjbaa.En
open Go
set_option linter.unusedVariables false
/-- All of the list are valid. -/
def vL : Cl → Bool
  | .nil => true
  | .cons o m k r => (if o = 0 ∨ o = 1 then decide (m = 0) && decide (k.len = 0) else if o = 2 ∨ o = 3 then decide (1 ≤ m) && decide (m ≤ 8) && decide (k.len = 0)
      else if o = 4 then decide (1 ≤ m) && decide (m ≤ 5) && decide (k.len = 0) else if o = 5 then decide (1 ≤ m) && decide (bitsI BinOp.and IntKind.i64 51 m = m) && decide (k.len = 0)
      else if o = 6 ∨ o = 7 then decide (m = 0) && !decide (k.len = 0) && vL k else false) && vL r
def vC (o m : Int) (k : Cl) : Bool := vL (.cons o m k .nil)
theorem vL_cons (o m : Int) (k r : Cl) : vL (.cons o m k r) = (vC o m k && vL r) := by
  show _ = (vL (.cons o m k .nil) && vL r)
  simp only [vL, Bool.and_true]
theorem qvalid_loop {R : Type} (N : Nat) (f : Int → Int → List V → Option Bool) (n : Nat) (hf : ∀ (o m : Int) (k : Cl), k.nodes < n → k.wf → k.len ≤ 9223372036854775807 → f o m k.enc = some (vC o m k)) (x y : Int) (K0 : Bool → Option R) (K1 : Option R) :
    ∀ (l : Cl) (pre : List V) (t : Nat), l.len < t → l.nodes ≤ n → l.wf → pre.length + l.len ≤ 9223372036854775807 →
      S_qvalid_18 N f x y (pre ++ l.enc) t (pre.length : Int) K0 K1 = if vL l then K1 else K0 false
  | .nil, pre, 0, ht, _, _, _ => by simp [Cl.len] at ht
  | .nil, pre, t + 1, ht, _, _, _ => by
    unfold S_qvalid_18 F_qvalid_18
    simp [Cl.enc, br, vL]
  | .cons o m k r, pre, 0, ht, _, _, _ => by simp [Cl.len] at ht
  | .cons o m k r, pre, t + 1, ht, hn, hw, hl => by
    simp only [Cl.len, Cl.nodes] at ht hn hl
    obtain ⟨_, _, hk1, hk2, hr⟩ := hw
    have ih := qvalid_loop N f n hf x y K0 K1 r (pre ++ [.agg [.int .i64 o, .int .i64 m, .sl 46 k.enc]]) t
    have e1 : pre ++ [V.agg [.int .i64 o, .int .i64 m, .sl 46 k.enc]] ++ r.enc = pre ++ .agg [.int .i64 o, .int .i64 m, .sl 46 k.enc] :: r.enc := by simp
    have e2 : ((pre ++ [V.agg [.int .i64 o, .int .i64 m, .sl 46 k.enc]]).length : Int) = (pre.length : Int) + 1 := by simp
    rw [e1, e2] at ih
    unfold S_qvalid_18 F_qvalid_18
    have h1 : (pre.length : Int) < ((pre ++ V.agg [.int .i64 o, .int .i64 m, .sl 46 k.enc] :: r.enc).length : Int) := by simp; omega
    have h2 : (0 : Int) ≤ pre.length := by omega
    have h3 : IntKind.i64.wrap ((pre.length : Int) + 1) = (pre.length : Int) + 1 := w64 (by omega) (by omega)
    simp only [Cl.enc, br_t, br_f, br_dec, br_not, br_and, br_or, bnd1_mk, bnd2_mk, bnd3_mk, bnd4_mk, bnd5_mk, at_zero, at_succ, at_mid, unInt_mk, unBool_mk, unStr_mk, unBytes_mk, unSl_mk, unAgg_mk, unCons_mk, unNil_mk, h1, h2, if_true, Int.toNat_natCast]
    rw [hf o m k (by omega) hk2 hk1, bnd1_mk, h3, vL_cons, ih (by omega) (by omega) hr (by simp; omega)]
    cases vC o m k <;> simp [br]
/-- The reference's valid. -/
theorem qvalid_ok (N : Nat) : ∀ (n : Nat) (o m : Int) (k : Cl), n ≤ N → k.nodes < n → k.wf → k.len ≤ 9223372036854775807 → s_qvalid N n o m k.enc = some (vC o m k)
  | 0, o, m, k, _, h, _, _ => absurd h (Nat.not_lt_zero _)
  | n + 1, o, m, k, hN, h, hw, hl => by
    unfold s_qvalid B_qvalid
    have hln := Cl.len_le k
    have hL : S_qvalid_18 N (s_qvalid N n) o m k.enc N 0 (fun b => some b) (some true) = if vL k then some true else some false :=
      qvalid_loop N (s_qvalid N n) n (fun o m k a1 a2 a3 => qvalid_ok N n o m k (by omega) a1 a2 a3) o m _ _ k [] N (by omega) (by omega) hw (by simpa using hl)
    have hz : ((k.enc.length : Int) = 0) = (k.len = 0) := by rw [Cl.enc_len]; exact propext (by omega)
    simp only [hL, hz, s_qhas, bnd1_mk, br_dec, br_not, vC, vL, Bool.and_true]
    by_cases h0 : o = 0
    · subst h0; by_cases hm : m = 0 <;> simp [hm]
    by_cases h1 : o = 1
    · subst h1; by_cases hm : m = 0 <;> simp [hm]
    by_cases h2 : o = 2
    · subst h2; by_cases ha : 1 ≤ m <;> by_cases hb : m ≤ 8 <;> simp [ha, hb]
    by_cases h3 : o = 3
    · subst h3; by_cases ha : 1 ≤ m <;> by_cases hb : m ≤ 8 <;> simp [ha, hb]
    by_cases h4 : o = 4
    · subst h4; by_cases ha : 1 ≤ m <;> by_cases hb : m ≤ 5 <;> simp [ha, hb]
    by_cases h5 : o = 5
    · subst h5; by_cases ha : 1 ≤ m <;> by_cases hb : bitsI BinOp.and IntKind.i64 51 m = m <;> simp [ha, hb]
    by_cases h6 : o = 6
    · subst h6; by_cases hm : m = 0 <;> by_cases hk : k.len = 0 <;> cases hv : vL k <;> simp [hm, hk]
    by_cases h7 : o = 7
    · subst h7; by_cases hm : m = 0 <;> by_cases hk : k.len = 0 <;> cases hv : vL k <;> simp [hm, hk]
    simp [h0, h1, h2, h3, h4, h5, h6, h7]
end Go.Proofs.Ytllnklkjkjmjbaa.En

/- Words for security statuses: bits as vectors. No program in sight. -/
namespace Go.Proofs.Ytllnklkjkjmjbaa.En
open Go
set_option linter.unusedVariables false
def bv (a : Int) : BitVec 64 := BitVec.ofInt 64 a
theorem wrap_range (n : Int) : -9223372036854775808 ≤ IntKind.i64.wrap n ∧ IntKind.i64.wrap n ≤ 9223372036854775807 := by
  rw [IntKind.wrap_i64]; omega
/-- All bits of y are in x. -/
def hasB (x y : BitVec 64) : Bool := decide (x &&& y = y)
theorem hasB_iff (x y : BitVec 64) : hasB x y = true ↔ ∀ i, i < 64 → y.getLsbD i = true → x.getLsbD i = true := by
  unfold hasB
  rw [decide_eq_true_iff]
  constructor
  · intro h i hi hy
    rw [← h, BitVec.getLsbD_and] at hy
    simp at hy; exact hy.1
  · intro h
    apply BitVec.eq_of_getLsbD_eq
    intro i hi
    rw [BitVec.getLsbD_and]
    cases hy : y.getLsbD i with
    | false => simp
    | true => simp [h i hi hy]
theorem hasB_refl (x : BitVec 64) : hasB x x = true := by rw [hasB_iff]; intros; assumption
theorem hasB_trans {x y z : BitVec 64} (h : hasB x y = true) (k : hasB y z = true) : hasB x z = true := by
  rw [hasB_iff] at *
  exact fun i hi hz => h i hi (k i hi hz)
/-- A security status: PINs, keys, state, level. -/
structure Sec where
  p : Int
  k : Int
  s : Int
  l : Int
def Sec.enc (x : Sec) : V := .agg [.int .i64 x.p, .int .i64 x.k, .int .i64 x.s, .int .i64 x.l]
/-- x has at most the rights of y. -/
def Sec.le (x y : Sec) : Prop := hasB (bv y.p) (bv x.p) = true ∧ hasB (bv y.k) (bv x.k) = true ∧ (x.s ≤ 0 ∨ x.s ≤ y.s) ∧ hasB (bv y.l) (bv x.l) = true
theorem Sec.le_refl (x : Sec) : x.le x := ⟨hasB_refl _, hasB_refl _, .inr (Int.le_refl _), hasB_refl _⟩
theorem Sec.le_trans {x y z : Sec} (h : x.le y) (k : y.le z) : x.le z := by
  obtain ⟨a, b, c, d⟩ := h
  obtain ⟨a', b', c', d'⟩ := k
  exact ⟨hasB_trans a' a, hasB_trans b' b, by omega, hasB_trans d' d⟩
/-- 2^n, n from 0 to 62. -/
def p2 (n : Nat) : Int := ((2 ^ n : Nat) : Int)
end Go.Proofs.Ytllnklkjkjmjbaa.En

/- Which conditions imply which: plain. -/
namespace Go.Proofs.Ytllnklkjkjmjbaa.En
open Go
set_option linter.unusedVariables false
/-- What is known of a valid condition. -/
theorem vC_leaf {o m : Int} {k : Cl} (h : vC o m k = true) : (o = 0 ∧ m = 0 ∧ k = .nil) ∨ (o = 1 ∧ m = 0 ∧ k = .nil) ∨ (o = 2 ∧ 1 ≤ m ∧ m ≤ 8 ∧ k = .nil) ∨ (o = 3 ∧ 1 ≤ m ∧ m ≤ 8 ∧ k = .nil) ∨ (o = 4 ∧ 1 ≤ m ∧ m ≤ 5 ∧ k = .nil) ∨ (o = 5 ∧ 1 ≤ m ∧ bitsI BinOp.and IntKind.i64 51 m = m ∧ k = .nil) ∨ ((o = 6 ∨ o = 7) ∧ m = 0 ∧ k ≠ .nil ∧ vL k = true) := by
  have hnil : ∀ k : Cl, k.len = 0 → k = .nil := by intro k; cases k <;> simp [Cl.len]
  simp only [vC, vL, Bool.and_true] at h
  by_cases h0 : o = 0 ∨ o = 1
  · rw [if_pos h0] at h
    simp only [Bool.and_eq_true, decide_eq_true_eq] at h
    have := hnil k h.2
    rcases h0 with h0 | h0
    · exact .inl ⟨h0, h.1, this⟩
    · exact .inr (.inl ⟨h0, h.1, this⟩)
  rw [if_neg h0] at h
  by_cases h2 : o = 2 ∨ o = 3
  · rw [if_pos h2] at h
    simp only [Bool.and_eq_true, decide_eq_true_eq] at h
    have := hnil k h.2
    rcases h2 with h2 | h2
    · exact .inr (.inr (.inl ⟨h2, h.1.1, h.1.2, this⟩))
    · exact .inr (.inr (.inr (.inl ⟨h2, h.1.1, h.1.2, this⟩)))
  rw [if_neg h2] at h
  by_cases h4 : o = 4
  · rw [if_pos h4] at h
    simp only [Bool.and_eq_true, decide_eq_true_eq] at h
    exact .inr (.inr (.inr (.inr (.inl ⟨h4, h.1.1, h.1.2, hnil k h.2⟩))))
  rw [if_neg h4] at h
  by_cases h5 : o = 5
  · rw [if_pos h5] at h
    simp only [Bool.and_eq_true, decide_eq_true_eq] at h
    exact .inr (.inr (.inr (.inr (.inr (.inl ⟨h5, h.1.1, h.1.2, hnil k h.2⟩)))))
  rw [if_neg h5] at h
  by_cases h6 : o = 6 ∨ o = 7
  · rw [if_pos h6] at h
    simp only [Bool.and_eq_true, decide_eq_true_eq, Bool.not_eq_true', decide_eq_false_iff_not] at h
    exact .inr (.inr (.inr (.inr (.inr (.inr ⟨h6, h.1.1, fun e => h.1.2 (by rw [e]; rfl), h.2⟩)))))
  · rw [if_neg h6] at h; cases h
/-! The program's statuses -/
instance : DecidableEq Sec := fun x y => by
  cases x with | mk a b c d => cases y with | mk e f g h =>
  exact decidable_of_iff (a = e ∧ b = f ∧ c = g ∧ d = h) (by simp)
end Go.Proofs.Ytllnklkjkjmjbaa.En

/- Which conditions imply which: the reference's trial of all statuses. Plain. -/
namespace Go.Proofs.Ytllnklkjkjmjbaa.En
open Go
set_option linter.unusedVariables false
abbrev At := Int × Int
theorem level_range {n : Int} (h1 : 1 ≤ n) (h : bitsI BinOp.and IntKind.i64 51 n = n) : n ≤ 51 := by
  have e : bitsI BinOp.and IntKind.i64 51 n = IntKind.i64.wrap ((bv 51 &&& bv n).toNat : Int) := rfl
  have h2 : (bv 51 &&& bv n).toNat ≤ 51 := by
    rw [BitVec.toNat_and]
    exact Nat.le_trans Nat.and_le_left (by decide)
  rw [e, w64 (by omega) (by omega)] at h
  omega
/-! The trial -/
/-- What is still to come is not there. -/
def fresh (s : Sec) (l : List At) : Prop := ∀ a ∈ l, (a.1 = 2 → bv s.p &&& bv (p2 a.2.toNat) = 0#64) ∧ (a.1 = 3 → bv s.k &&& bv (p2 a.2.toNat) = 0#64) ∧ (a.1 = 5 → bv s.l &&& bv a.2 = 0#64)
end Go.Proofs.Ytllnklkjkjmjbaa.En

/- Lists of data objects as plain data; the budget of the statements. -/
namespace Go.Proofs.Ytllnklkjkjmjbaa.En
open Go
set_option linter.unusedVariables false
/-- A list of data objects: the first one's tag, value and kids, and the rest of the list. -/
inductive Tl where
  | nil
  | cons (tag : Int) (value : List UInt8) (kids : Tl) (rest : Tl)
  deriving DecidableEq
namespace Tl
def len : Tl → Nat
  | nil => 0
  | cons _ _ _ r => r.len + 1
def nodes : Tl → Nat
  | nil => 0
  | cons _ _ k r => k.nodes + r.nodes + 1
def append : Tl → Tl → Tl
  | nil, u => u
  | cons t v k r, u => cons t v k (r.append u)
def enc : Tl → List V
  | nil => []
  | cons t v k r => .agg [.int .i64 t, .bytes v, .sl 62 k.enc] :: r.enc
/-- As it came in: tags are of type int, slices have lengths. -/
def wf : Tl → Prop
  | nil => True
  | cons t v k r => (-9223372036854775808 ≤ t ∧ t ≤ 9223372036854775807) ∧ v.length ≤ 9223372036854775807 ∧ k.len ≤ 9223372036854775807 ∧ k.wf ∧ r.wf
/-- Objects and bytes. -/
def wt : Tl → Nat
  | nil => 0
  | cons _ v k r => v.length + 1 + k.wt + r.wt
theorem enc_len : ∀ l : Tl, l.enc.length = l.len
  | nil => rfl
  | cons t v k r => by simp [enc, len, enc_len r]
theorem len_le : ∀ l : Tl, l.len ≤ l.nodes
  | nil => Nat.le_refl _
  | cons t v k r => by have := len_le r; simp only [len, nodes]; omega
theorem enc_append : ∀ a b : Tl, (a.append b).enc = a.enc ++ b.enc
  | nil, b => rfl
  | cons t v k r, b => by simp only [append, enc, enc_append r b, List.cons_append]
theorem len_append : ∀ a b : Tl, (a.append b).len = a.len + b.len
  | nil, b => by simp [append, len]
  | cons t v k r, b => by simp only [append, len, len_append r b]; omega
theorem append_nil : ∀ a : Tl, a.append nil = a
  | nil => rfl
  | cons t v k r => by simp only [append, append_nil r]
end Tl
end Go.Proofs.Ytllnklkjkjmjbaa.En

/- Tags and lengths of data objects: what the program and the reference compute. -/
namespace Go.Proofs.Ytllnklkjkjmjbaa.En
open Go
set_option linter.unusedVariables false
def I64 (t : Int) : Prop := -9223372036854775808 ≤ t ∧ t ≤ 9223372036854775807
def tagV (t : Int) : Bool := decide ((1 ≤ t ∧ t ≤ 255 ∧ t % 32 ≠ 31) ∨ (256 ≤ t ∧ t ≤ 65535 ∧ t / 256 % 32 = 31 ∧ 31 ≤ t % 256 ∧ t % 256 ≤ 127))
def tagC (t : Int) : Bool := tagV t && decide ((if 255 < t then t / 256 else t) / 32 % 2 = 1)
theorem tagV_range {t : Int} (h : tagV t = true) : 1 ≤ t ∧ t ≤ 65535 := by simp [tagV] at h; omega
theorem Valid_eq (N : Nat) (t : Int) (h : I64 t) : s_Valid N t = some (tagV t) := by
  unfold s_Valid
  simp only [br_t, br_f, br_dec, br_not, br_and, br_or, bnd1_mk, bnd2_mk, bnd3_mk, bnd4_mk, bnd5_mk, at_zero, at_succ, at_mid, unInt_mk, unBool_mk, unStr_mk, unBytes_mk, unSl_mk, unAgg_mk, unCons_mk, unNil_mk, and31, and255, shr8]
  repeat' split
  all_goals (congr 1; rw [Bool.eq_iff_iff]; simp [tagV]; omega)
theorem rValid_eq (N : Nat) (t : Int) (h : I64 t) : s_rValid N t = some (tagV t) := by
  unfold s_rValid
  simp only [br_t, br_f, br_dec, br_not, br_and, br_or, bnd1_mk, bnd2_mk, bnd3_mk, bnd4_mk, bnd5_mk, at_zero, at_succ, at_mid, unInt_mk, unBool_mk, unStr_mk, unBytes_mk, unSl_mk, unAgg_mk, unCons_mk, unNil_mk]
  by_cases h0 : 1 ≤ t
  · have e1 : t.tmod 32 = t % 32 := Int.tmod_eq_emod_of_nonneg (by omega)
    have e2 : t.tmod 256 = t % 256 := Int.tmod_eq_emod_of_nonneg (by omega)
    have e3 : t.tdiv 256 = t / 256 := Int.tdiv_eq_ediv_of_nonneg (by omega)
    have e4 : IntKind.i64.wrap (t / 256) = t / 256 := w64 (by unfold I64 at h; omega) (by unfold I64 at h; omega)
    have e5 : (t / 256).tmod 32 = t / 256 % 32 := Int.tmod_eq_emod_of_nonneg (by omega)
    simp only [e1, e2, e3, e4, e5]
    repeat' split
    all_goals (congr 1; rw [Bool.eq_iff_iff]; simp [tagV]; omega)
  · rw [if_neg h0, if_neg (by omega)]
    congr 1; rw [Bool.eq_iff_iff]; simp [tagV]; omega
theorem Constructed_eq (N : Nat) (t : Int) (h : I64 t) : s_Constructed N t = some (tagC t) := by
  unfold s_Constructed tagC
  simp only [br_t, br_f, br_dec, br_not, br_and, br_or, bnd1_mk, bnd2_mk, bnd3_mk, bnd4_mk, bnd5_mk, at_zero, at_succ, at_mid, unInt_mk, unBool_mk, unStr_mk, unBytes_mk, unSl_mk, unAgg_mk, unCons_mk, unNil_mk, Valid_eq N t h, and32, shr8]
  cases tagV t with
  | false => simp [br]
  | true =>
    simp only [br_t, Bool.true_and]
    by_cases hc : 255 < t
    · rw [if_pos hc, if_pos hc]; congr 1; rw [Bool.eq_iff_iff]; simp; omega
    · rw [if_neg hc, if_neg hc]; congr 1; rw [Bool.eq_iff_iff]; simp; omega
theorem rConstructed_eq (N : Nat) (t : Int) (h : I64 t) : s_rConstructed N t = some (tagC t) := by
  unfold s_rConstructed s_rfirst tagC
  simp only [br_t, br_f, br_dec, br_not, br_and, br_or, bnd1_mk, bnd2_mk, bnd3_mk, bnd4_mk, bnd5_mk, at_zero, at_succ, at_mid, unInt_mk, unBool_mk, unStr_mk, unBytes_mk, unSl_mk, unAgg_mk, unCons_mk, unNil_mk, rValid_eq N t h]
  cases ht : tagV t with
  | false => simp [br]
  | true =>
    have hr := tagV_range ht
    have e3 : t.tdiv 256 = t / 256 := Int.tdiv_eq_ediv_of_nonneg (by omega)
    have e4 : IntKind.i64.wrap (t / 256) = t / 256 := w64 (by omega) (by omega)
    have e5 : ∀ x : Int, 1 ≤ x → x ≤ 65535 → (IntKind.i64.wrap (x.tdiv 32)).tmod 2 = x / 32 % 2 := fun x h1 h2 => by
      rw [Int.tdiv_eq_ediv_of_nonneg (by omega), w64 (by omega) (by omega)]
      exact Int.tmod_eq_emod_of_nonneg (by omega)
    simp only [br_t, Bool.true_and, e3, e4]
    by_cases hc : 255 < t
    · rw [if_pos hc, if_pos hc, bnd1_mk, e5 _ (by omega) (by omega)]
    · rw [if_neg hc, if_neg hc, bnd1_mk, e5 _ (by omega) (by omega)]
/-! The bytes of tags and lengths -/
def byteI (n : Int) : UInt8 := UInt8.ofNat (n % 256).toNat
def tagB (t : Int) : List UInt8 := if 255 < t then [byteI (t / 256), byteI t] else [byteI t]
def lenB (n : Int) : List UInt8 := if n < 128 then [byteI n] else if n < 256 then [129, byteI n] else [130, byteI (n / 256), byteI n]
theorem tagBytes_eq (N : Nat) (t : Int) : s_tagBytes N t = some (tagB t) := by
  unfold s_tagBytes tagB byteI
  simp only [br_t, br_f, br_dec, br_not, br_and, br_or, bnd1_mk, bnd2_mk, bnd3_mk, bnd4_mk, bnd5_mk, at_zero, at_succ, at_mid, unInt_mk, unBool_mk, unStr_mk, unBytes_mk, unSl_mk, unAgg_mk, unCons_mk, unNil_mk, shr8, wu8]
  split <;> rfl
theorem lengthBytes_eq (N : Nat) (n : Int) : s_lengthBytes N n = some (lenB n) := by
  unfold s_lengthBytes lenB byteI
  simp only [br_t, br_f, br_dec, br_not, br_and, br_or, bnd1_mk, bnd2_mk, bnd3_mk, bnd4_mk, bnd5_mk, at_zero, at_succ, at_mid, unInt_mk, unBool_mk, unStr_mk, unBytes_mk, unSl_mk, unAgg_mk, unCons_mk, unNil_mk, shr8, wu8]
  repeat' split
  all_goals rfl
theorem rhead_eq (N : Nat) (t n : Int) (ht : 0 ≤ t ∧ t ≤ 65535) (hn : 0 ≤ n ∧ n ≤ 65535) : s_rhead N t n = some (tagB t ++ lenB n) := by
  have e1 : ∀ x : Int, 0 ≤ x ∧ x ≤ 65535 → IntKind.i64.wrap (x.tdiv 256) = x / 256 := fun x h => by
    rw [Int.tdiv_eq_ediv_of_nonneg h.1, w64 (by omega) (by omega)]
  have e2 : ∀ x : Int, 0 ≤ x ∧ x ≤ 65535 → x.tmod 256 = x % 256 := fun x h => Int.tmod_eq_emod_of_nonneg h.1
  unfold s_rhead tagB lenB byteI
  simp only [br_t, br_f, br_dec, br_not, br_and, br_or, bnd1_mk, bnd2_mk, bnd3_mk, bnd4_mk, bnd5_mk, at_zero, at_succ, at_mid, unInt_mk, unBool_mk, unStr_mk, unBytes_mk, unSl_mk, unAgg_mk, unCons_mk, unNil_mk, wu8, e1 t ht, e1 n hn, e2 t ht, e2 n hn, Int.emod_emod_of_dvd _ (Int.dvd_refl 256)]
  have q1 : (n < 128) ↔ ¬ (128 ≤ n) := by omega
  have q2 : (n < 256) ↔ ¬ (256 ≤ n) := by omega
  simp only [q1, q2]
  by_cases h1 : 255 < t <;> by_cases h2 : 256 ≤ n <;> by_cases h3 : 128 ≤ n
  all_goals simp only [h1, h2, h3, if_true, if_false, not_true, not_false_iff, List.cons_append, List.nil_append]
  all_goals first | rfl | omega
end Go.Proofs.Ytllnklkjkjmjbaa.En

/- The bytes of conditions: there and back. Plain. -/
namespace Go.Proofs.Ytllnklkjkjmjbaa.En
open Go
set_option linter.unusedVariables false
/-- The bytes of a list of conditions. -/
def eL : Cl → List UInt8
  | .nil => []
  | .cons o m k r => (byteI o :: (if 6 ≤ o then byteI (k.len : Int) :: eL k else if 2 ≤ o then [byteI m] else [])) ++ eL r
def eC (o m : Int) (k : Cl) : List UInt8 := byteI o :: (if 6 ≤ o then byteI (k.len : Int) :: eL k else if 2 ≤ o then [byteI m] else [])
theorem eL_cons (o m : Int) (k r : Cl) : eL (.cons o m k r) = eC o m k ++ eL r := by
  conv => lhs; unfold eL
  rfl
/-- The depth. -/
def Cl.dep : Cl → Nat
  | .nil => 0
  | .cons _ _ k r => max (k.dep + 1) r.dep
theorem Cl.dep_le : ∀ l : Cl, l.dep ≤ l.nodes
  | .nil => Nat.le_refl _
  | .cons o m k r => by
    have := dep_le k
    have := dep_le r
    simp only [Cl.dep, Cl.nodes]; omega
theorem eL_len : ∀ l : Cl, (eL l).length ≤ 2 * l.nodes
  | .nil => Nat.le_refl _
  | .cons o m k r => by
    have h1 := eL_len k
    have h2 := eL_len r
    rw [eL_cons]
    unfold eC
    simp only [List.length_append, List.length_cons, Cl.nodes]
    split
    · simp only [List.length_cons]; omega
    split
    · simp; omega
    · simp; omega
/-! Reading -/
def rdL (f : List UInt8 → Option ((Int × Int × Cl) × List UInt8)) : Nat → List UInt8 → Option (Cl × List UInt8)
  | 0, b => some (.nil, b)
  | n + 1, b => match f b with
    | none => none
    | some ((o, m, k), rest) => match rdL f n rest with
      | none => none
      | some (r, rest') => some (.cons o m k r, rest')
def rd (lim : Int) : Nat → List UInt8 → Option ((Int × Int × Cl) × List UInt8)
  | 0, _ => none
  | _ + 1, [] => none
  | d + 1, op :: b =>
    if lim < (op.toNat : Int) then none
    else if (op.toNat : Int) < 2 then some (((op.toNat : Int), 0, .nil), b)
    else match b with
      | [] => none
      | n :: b =>
        if (op.toNat : Int) < 6 then some (((op.toNat : Int), (n.toNat : Int), .nil), b)
        else match rdL (rd lim d) n.toNat b with
          | none => none
          | some (k, rest) => some (((op.toNat : Int), 0, k), rest)
end Go.Proofs.Ytllnklkjkjmjbaa.En

/- Encoding data objects: what the program and the reference compute. -/
namespace Go.Proofs.Ytllnklkjkjmjbaa.En
open Go
set_option linter.unusedVariables false
def Tl.isNil : Tl → Bool
  | .nil => true
  | _ => false
def okL : Int → Tl → Bool
  | _, .nil => true
  | d, .cons t v k r => (decide (d ≤ 8) && (tagV t && (bif tagC t then v.isEmpty && okL (d + 1) k else k.isNil))) && okL d r
def encL : Tl → List UInt8
  | .nil => []
  | .cons t v k r => (tagB t ++ lenB ((bif tagC t then encL k else v).length : Int) ++ (bif tagC t then encL k else v)) ++ encL r
theorem encL_cons (t : Int) (v : List UInt8) (k r : Tl) : encL (.cons t v k r) = (tagB t ++ lenB ((bif tagC t then encL k else v).length : Int) ++ (bif tagC t then encL k else v)) ++ encL r := by
  conv => lhs; unfold encL
theorem isNil_len (k : Tl) : k.isNil = decide (k.len = 0) := by cases k <;> simp [Tl.isNil, Tl.len]
theorem tagB_len (t : Int) : 1 ≤ (tagB t).length ∧ (tagB t).length ≤ 2 := by unfold tagB; split <;> simp
theorem lenB_len (n : Int) : 1 ≤ (lenB n).length ∧ (lenB n).length ≤ 3 := by unfold lenB; (repeat' split) <;> simp
section
variable (N : Nat) (n : Nat) (d : Int)
abbrev L63 (k : Tl) : Prop := k.len ≤ 9223372036854775807
theorem mid (pre : List V) (x : V) (suf : List V) : pre ++ x :: suf = (pre ++ [x]) ++ suf := by simp
/-- What a step through a list knows. -/
theorem stepI (pre : List V) (x : V) (suf : List V) (h : pre.length + (suf.length + 1) ≤ 9223372036854775807) :
    (pre.length : Int) < ((pre ++ x :: suf).length : Int) ∧ (0 : Int) ≤ pre.length ∧ IntKind.i64.wrap ((pre.length : Int) + 1) = ((pre ++ [x]).length : Int) ∧ ((pre ++ x :: suf).length : Int) = (((pre ++ [x]) ++ suf).length : Int) := by
  refine ⟨by simp; omega, by omega, ?_, by simp⟩
  rw [w64 (by omega) (by omega)]; simp
theorem endI (pre : List V) : ¬ ((pre.length : Int) < ((pre ++ ([] : List V)).length : Int)) := by simp
theorem IndexFuncV_loop (f : List V → Int → Option Bool) (hd : -9223372036854775808 ≤ d ∧ d ≤ 1000) (hf : ∀ (k : Tl), d ≤ 8 → k.nodes < n → k.wf → L63 k → f k.enc (d + 1) = some (okL (d + 1) k)) :
    ∀ (l : Tl) (pre : List V) (t : Nat), l.len < t → l.nodes ≤ n → l.wf → pre.length + l.len ≤ 9223372036854775807 →
      ∃ i, S_IndexFuncV_2 N f (pre ++ l.enc) ((pre ++ l.enc).length : Int) d t (pre.length : Int) (fun n0 => some n0) (some (-1)) = some i ∧ decide (0 ≤ i) = !okL d l
  | l, pre, 0, ht, _, _, _ => by omega
  | .nil, pre, t + 1, ht, _, _, _ => by
    unfold S_IndexFuncV_2 F_IndexFuncV_2
    simp only [Tl.enc, br_t, br_f, br_dec, br_not, br_and, br_or, bnd1_mk, bnd2_mk, bnd3_mk, bnd4_mk, bnd5_mk, at_zero, at_succ, at_mid, unInt_mk, unBool_mk, unStr_mk, unBytes_mk, unSl_mk, unAgg_mk, unCons_mk, unNil_mk, endI, if_false]
    exact ⟨-1, rfl, by simp [okL]⟩
  | .cons tg v k r, pre, t + 1, ht, hn, hw, hl => by
    simp only [Tl.len, Tl.nodes] at ht hn hl
    obtain ⟨ht1, hv, hk1, hk2, hr⟩ := hw
    obtain ⟨h1, h2, h3, h4⟩ := stepI pre (.agg [.int .i64 tg, .bytes v, .sl 62 k.enc]) r.enc (by rw [Tl.enc_len]; exact hl)
    obtain ⟨i, ih1, ih2⟩ := IndexFuncV_loop f hd hf r (pre ++ [.agg [.int .i64 tg, .bytes v, .sl 62 k.enc]]) t (by omega) (by omega) hr (by simp; omega)
    rw [← mid, ← h3] at ih1
    unfold S_IndexFuncV_2 F_IndexFuncV_2 s_valid1 C_valid1 okL
    simp only [Tl.enc, br_t, br_f, br_dec, br_not, br_and, br_or, bnd1_mk, bnd2_mk, bnd3_mk, bnd4_mk, bnd5_mk, at_zero, at_succ, at_mid, unInt_mk, unBool_mk, unStr_mk, unBytes_mk, unSl_mk, unAgg_mk, unCons_mk, unNil_mk, h1, h2, if_true, Int.toNat_natCast, Valid_eq N tg ht1, Constructed_eq N tg ht1]
    by_cases c1 : 8 < d
    · rw [if_pos c1]
      exact ⟨_, by rw [bnd1_mk, br_t], by simp; omega⟩
    · rw [if_neg c1]
      cases tagV tg with
      | false => exact ⟨_, by rw [br_f, bnd1_mk, br_t], by simp⟩
      | true =>
        rw [br_t]
        cases tagC tg with
        | false =>
          rw [br_f, bnd1_mk, br_dec, Tl.enc_len]
          by_cases c2 : (0 : Int) < (k.len : Int)
          · rw [if_pos c2]; refine ⟨_, rfl, ?_⟩; simp [isNil_len]; omega
          · rw [if_neg c2]; refine ⟨i, ih1, ?_⟩
            rw [ih2]
            have : k.len = 0 := by omega
            simp [isNil_len, this, (by omega : d ≤ 8)]
        | true =>
          rw [br_t]
          by_cases c2 : (0 : Int) < (v.length : Int)
          · rw [if_pos c2]
            refine ⟨_, by rw [bnd1_mk, br_t], ?_⟩
            cases v with
            | nil => simp at c2
            | cons a b => simp
          · rw [if_neg c2]
            have hv0 : v = [] := List.length_eq_zero_iff.1 (by omega)
            subst hv0
            rw [w64 (n := d + 1) (by omega) (by omega), hf k (by omega) (by omega) hk2 hk1, bnd1_mk, bnd1_mk]
            cases okL (d + 1) k with
            | false => refine ⟨_, rfl, by simp⟩
            | true => refine ⟨i, ih1, ?_⟩; rw [ih2]; simp [(by omega : d ≤ 8)]
theorem valid_eq (N : Nat) : ∀ (M : Nat) (l : Tl) (d : Int), l.nodes < M → l.nodes < N → l.wf → L63 l → -9223372036854775808 ≤ d ∧ d ≤ 1000 → s_valid N M l.enc d = some (okL d l)
  | 0, l, d, h, _, _, _, _ => by omega
  | M + 1, l, d, h, hN, hw, hl, hd => by
    have := l.len_le
    obtain ⟨i, h1, h2⟩ := IndexFuncV_loop N l.nodes d (s_valid N M) hd (fun k hd8 hk hkw hkl => valid_eq N M k (d + 1) (by omega) (by omega) hkw hkl (by omega)) l [] N (by omega) (Nat.le_refl _) hw (by simpa using hl)
    simp only [List.nil_append, List.length_nil, Int.natCast_zero] at h1
    unfold s_valid B_valid s_ContainsFuncV C_ContainsFuncV s_IndexFuncV C_IndexFuncV
    have h1' : S_IndexFuncV_2 N (s_valid N M) l.enc (l.enc.length : Int) d N 0 (fun n0 => some n0) (some (-1)) = some i := h1
    rw [h1', bnd1_mk, bnd1_mk, h2, Bool.not_not]
theorem rright_loop (f : List V → Int → Option Bool) (hd : -9223372036854775808 ≤ d ∧ d ≤ 1000) (hf : ∀ (k : Tl), d ≤ 8 → k.nodes < n → k.wf → L63 k → f k.enc (d + 1) = some (okL (d + 1) k)) :
    ∀ (l : Tl) (pre : List V) (t : Nat), l.len < t → l.nodes ≤ n → l.wf → pre.length + l.len ≤ 9223372036854775807 →
      S_rright_2 N f (pre ++ l.enc) d t (pre.length : Int) (fun b => some b) (some true) = some (okL d l)
  | l, pre, 0, ht, _, _, _ => by omega
  | .nil, pre, t + 1, ht, _, _, _ => by
    unfold S_rright_2 F_rright_2
    simp only [Tl.enc, br_t, br_f, br_dec, br_not, br_and, br_or, bnd1_mk, bnd2_mk, bnd3_mk, bnd4_mk, bnd5_mk, at_zero, at_succ, at_mid, unInt_mk, unBool_mk, unStr_mk, unBytes_mk, unSl_mk, unAgg_mk, unCons_mk, unNil_mk, endI, if_false, okL]
  | .cons tg v k r, pre, t + 1, ht, hn, hw, hl => by
    simp only [Tl.len, Tl.nodes] at ht hn hl
    obtain ⟨ht1, hv, hk1, hk2, hr⟩ := hw
    obtain ⟨h1, h2, h3, h4⟩ := stepI pre (.agg [.int .i64 tg, .bytes v, .sl 62 k.enc]) r.enc (by rw [Tl.enc_len]; exact hl)
    have ih := rright_loop f hd hf r (pre ++ [.agg [.int .i64 tg, .bytes v, .sl 62 k.enc]]) t (by omega) (by omega) hr (by simp; omega)
    rw [← mid, ← h3] at ih
    unfold S_rright_2 F_rright_2 okL
    simp only [Tl.enc, br_t, br_f, br_dec, br_not, br_and, br_or, bnd1_mk, bnd2_mk, bnd3_mk, bnd4_mk, bnd5_mk, at_zero, at_succ, at_mid, unInt_mk, unBool_mk, unStr_mk, unBytes_mk, unSl_mk, unAgg_mk, unCons_mk, unNil_mk, h1, h2, if_true, Int.toNat_natCast, rValid_eq N tg ht1, rConstructed_eq N tg ht1]
    by_cases c1 : 8 < d
    · rw [if_pos c1]; simp; omega
    · rw [if_neg c1]
      have c1' : d ≤ 8 := by omega
      simp only [c1', decide_true, Bool.true_and]
      cases tagV tg with
      | false => rfl
      | true =>
        rw [br_t]
        cases tagC tg with
        | false =>
          simp only [br_f, Tl.enc_len, cond_false, Bool.true_and]
          by_cases c2 : (0 : Int) < (k.len : Int)
          · rw [if_pos c2]; simp [isNil_len]; omega
          · rw [if_neg c2, ih]
            have : k.len = 0 := by omega
            simp [isNil_len, this]
        | true =>
          simp only [br_t, cond_true, Bool.true_and]
          by_cases c2 : (0 : Int) < (v.length : Int)
          · rw [if_pos c2]
            cases v with
            | nil => simp at c2
            | cons a b => rfl
          · rw [if_neg c2]
            have hv0 : v = [] := List.length_eq_zero_iff.1 (by omega)
            subst hv0
            rw [w64 (n := d + 1) (by omega) (by omega), hf k c1' (by omega) hk2 hk1, bnd1_mk]
            cases okL (d + 1) k with
            | false => rfl
            | true => rw [br_t, ih]; rfl
theorem rright_eq (N : Nat) : ∀ (M : Nat) (l : Tl) (d : Int), l.nodes < M → l.nodes < N → l.wf → L63 l → -9223372036854775808 ≤ d ∧ d ≤ 1000 → s_rright N M l.enc d = some (okL d l)
  | 0, l, d, h, _, _, _, _ => by omega
  | M + 1, l, d, h, hN, hw, hl, hd => by
    have := l.len_le
    exact rright_loop N l.nodes d (s_rright N M) hd (fun k hd8 hk hkw hkl => rright_eq N M k (d + 1) (by omega) (by omega) hkw hkl (by omega)) l [] N (by omega) (Nat.le_refl _) hw (by simpa using hl)
/-! size -/
theorem size_loop (f : List V → Option Int)
    (hf : ∀ (k : Tl), k.nodes < n → k.wf → L63 k → k.wt ≤ 20000 → okL (d + 1) k = true → ∃ s, f k.enc = some s ∧ (((encL k).length : Int) ≤ 4096 → s = (encL k).length) ∧ (4096 < ((encL k).length : Int) → 4096 < s) ∧ 0 ≤ s ∧ s ≤ 5 * k.wt) :
    ∀ (l : Tl) (pre : List V) (t : Nat) (n0 : Int), l.len < t → l.nodes ≤ n → l.wf → pre.length + l.len ≤ 9223372036854775807 → l.wt ≤ 20000 → okL d l = true → 0 ≤ n0 → n0 ≤ 4096 →
      ∃ s, S_size_3 N f (pre ++ l.enc) ((pre ++ l.enc).length : Int) t n0 (pre.length : Int) (fun n0 => some n0) = some s ∧ (n0 + (encL l).length ≤ 4096 → s = n0 + (encL l).length) ∧ (4096 < n0 + (encL l).length → 4096 < s) ∧ n0 ≤ s ∧ s ≤ n0 + 5 * l.wt
  | l, pre, 0, n0, ht, _, _, _, _, _, _, _ => by omega
  | .nil, pre, t + 1, n0, ht, _, _, _, _, _, _, _ => by
    unfold S_size_3 F_size_3
    simp only [Tl.enc, br_t, br_f, br_dec, br_not, br_and, br_or, bnd1_mk, bnd2_mk, bnd3_mk, bnd4_mk, bnd5_mk, at_zero, at_succ, at_mid, unInt_mk, unBool_mk, unStr_mk, unBytes_mk, unSl_mk, unAgg_mk, unCons_mk, unNil_mk, endI, if_false]
    exact ⟨n0, rfl, fun _ => by simp [encL], fun h => by simp [encL] at h; omega, Int.le_refl _, by omega⟩
  | .cons tg v k r, pre, t + 1, n0, ht, hn, hw, hl, hwt, hok, hn0, hn1 => by
    simp only [Tl.len, Tl.nodes, Tl.wt] at ht hn hl hwt
    obtain ⟨ht1, hv, hk1, hk2, hr⟩ := hw
    obtain ⟨h1, h2, h3, h4⟩ := stepI pre (.agg [.int .i64 tg, .bytes v, .sl 62 k.enc]) r.enc (by rw [Tl.enc_len]; exact hl)
    unfold okL at hok
    simp only [Bool.and_eq_true] at hok
    obtain ⟨⟨hd8, htv, hb⟩, hokr⟩ := hok
    -- the kids
    have hkid : ∃ s, f k.enc = some s ∧ (((bif tagC tg then encL k else v).length : Int) ≤ 4096 → (v.length : Int) + s = (bif tagC tg then encL k else v).length) ∧ (4096 < ((bif tagC tg then encL k else v).length : Int) → 4096 < (v.length : Int) + s) ∧ 0 ≤ s ∧ s ≤ 5 * k.wt := by
      cases hc : tagC tg with
      | true =>
        rw [hc] at hb
        simp only [cond_true, Bool.and_eq_true] at hb
        have hv0 : v = [] := by cases v with | nil => rfl | cons a b => simp at hb
        subst hv0
        obtain ⟨s, s1, s2, s3, s4, s5⟩ := hf k (by omega) hk2 hk1 (by omega) hb.2
        exact ⟨s, s1, fun h => by rw [s2 h]; simp, fun h => by have := s3 h; simp; omega, s4, s5⟩
      | false =>
        rw [hc] at hb
        simp only [cond_false] at hb
        have hk0 : k = .nil := by cases k with | nil => rfl | cons a b c d => simp [Tl.isNil] at hb
        subst hk0
        obtain ⟨s, s1, s2, s3, s4, s5⟩ := hf .nil (by have : Tl.nil.nodes = 0 := rfl; omega) trivial (Nat.zero_le _) (Nat.zero_le _) rfl
        have hs0 : s = 0 := by have := s2 (by simp [encL]); simpa [encL] using this
        subst hs0
        exact ⟨0, s1, fun h => Int.add_zero _, fun h => by rw [Int.add_zero]; exact h, Int.le_refl _, by omega⟩
    obtain ⟨s, s1, s2, s3, s4, s5⟩ := hkid
    have hE : (encL (.cons tg v k r)).length = (tagB tg).length + (lenB ((bif tagC tg then encL k else v).length : Int)).length + (bif tagC tg then encL k else v).length + (encL r).length := by
      rw [encL_cons]; simp only [List.length_append]
    rw [hE]
    generalize hB : (bif tagC tg then encL k else v) = B at *
    have ht2 := tagB_len tg
    have hl2 := lenB_len ((v.length : Int) + s)
    have hl3 := lenB_len (B.length : Int)
    unfold S_size_3 F_size_3
    have w1 : IntKind.i64.wrap ((v.length : Int) + s) = v.length + s := w64 (by omega) (by omega)
    simp only [Tl.enc, br_t, br_f, br_dec, br_not, br_and, br_or, bnd1_mk, bnd2_mk, bnd3_mk, bnd4_mk, bnd5_mk, at_zero, at_succ, at_mid, unInt_mk, unBool_mk, unStr_mk, unBytes_mk, unSl_mk, unAgg_mk, unCons_mk, unNil_mk, h1, h2, if_true, Int.toNat_natCast, s1, tagBytes_eq, w1, lengthBytes_eq]
    have w2 : IntKind.i64.wrap (((tagB tg).length : Int) + ((lenB ((v.length : Int) + s)).length : Int)) = (tagB tg).length + (lenB ((v.length : Int) + s)).length := w64 (by omega) (by omega)
    rw [w2]
    have w3 : IntKind.i64.wrap (((tagB tg).length : Int) + ((lenB ((v.length : Int) + s)).length : Int) + ((v.length : Int) + s)) = (tagB tg).length + (lenB ((v.length : Int) + s)).length + (v.length + s) := w64 (by omega) (by omega)
    rw [w3]
    have w4 : IntKind.i64.wrap (n0 + (((tagB tg).length : Int) + ((lenB ((v.length : Int) + s)).length : Int) + ((v.length : Int) + s))) = n0 + ((tagB tg).length + (lenB ((v.length : Int) + s)).length + (v.length + s)) := w64 (by omega) (by omega)
    rw [w4]
    by_cases c1 : 4096 < n0 + (((tagB tg).length : Int) + ((lenB ((v.length : Int) + s)).length : Int) + ((v.length : Int) + s))
    · rw [if_pos c1]
      refine ⟨_, rfl, fun h => ?_, fun _ => c1, by omega, by simp only [Tl.wt]; omega⟩
      exfalso
      have e1 := s2 (by omega)
      rw [e1] at c1
      omega
    · rw [if_neg c1]
      have e1 : (v.length : Int) + s = B.length := by
        by_cases hb4 : (B.length : Int) ≤ 4096
        · exact s2 hb4
        · have := s3 (by omega); omega
      rw [e1] at c1 ⊢
      obtain ⟨q, q1, q2, q3, q4, q5⟩ := size_loop f hf r (pre ++ [.agg [.int .i64 tg, .bytes v, .sl 62 k.enc]]) t (n0 + (((tagB tg).length : Int) + ((lenB (B.length : Int)).length : Int) + (B.length : Int))) (by omega) (by omega) hr (by simp; omega) (by omega) hokr (by omega) (by omega)
      rw [← mid, ← h3] at q1
      refine ⟨q, q1, fun h => by rw [q2 (by omega)]; omega, fun h => q3 (by omega), by omega, by simp only [Tl.wt]; omega⟩
theorem size_eq (N : Nat) : ∀ (M : Nat) (l : Tl) (d : Int), l.nodes < M → l.nodes < N → l.wf → L63 l → l.wt ≤ 20000 → okL d l = true →
    ∃ s, s_size N M l.enc = some s ∧ (((encL l).length : Int) ≤ 4096 → s = (encL l).length) ∧ (4096 < ((encL l).length : Int) → 4096 < s) ∧ 0 ≤ s ∧ s ≤ 5 * l.wt
  | 0, l, d, h, _, _, _, _, _ => by omega
  | M + 1, l, d, h, hN, hw, hl, hwt, hok => by
    have := l.len_le
    obtain ⟨s, s1, s2, s3, s4, s5⟩ := size_loop N l.nodes d (s_size N M) (fun k hk hkw hkl hkwt hkok => size_eq N M k (d + 1) (by omega) (by omega) hkw hkl hkwt hkok) l [] N 0 (by omega) (Nat.le_refl _) hw (by simpa using hl) hwt hok (by omega) (by omega)
    unfold s_size B_size
    refine ⟨s, s1, fun h => by rw [s2 (by omega)]; omega, fun h => s3 (by omega), by omega, by omega⟩
/-! encode, all -/
theorem concat4 (a b c e : List UInt8) (h : a.length + b.length + c.length + e.length ≤ 1000000) : s_concat N [.bytes a, .bytes b, .bytes c, .bytes e] = some (a ++ (b ++ c ++ e)) := by
  unfold s_concat
  simp only [flatB, Option.bind_some, br_dec]
  rw [if_pos (by simp; omega)]
  simp
theorem encode_loop (f : List V → Option (List UInt8)) (hf : ∀ (k : Tl), k.nodes < n → k.wf → L63 k → (encL k).length ≤ 4096 → f k.enc = some (encL k)) :
    ∀ (l : Tl) (pre : List V) (t : Nat) (acc : List UInt8), l.len < t → l.nodes ≤ n → l.wf → pre.length + l.len ≤ 9223372036854775807 → acc.length + (encL l).length ≤ 4096 →
      S_encode_3 N f (pre ++ l.enc) ((pre ++ l.enc).length : Int) t acc (pre.length : Int) (fun l0 => some l0) = some (acc ++ encL l)
  | l, pre, 0, acc, ht, _, _, _, _ => by omega
  | .nil, pre, t + 1, acc, ht, _, _, _, _ => by
    unfold S_encode_3 F_encode_3
    simp only [Tl.enc, br_t, br_f, br_dec, br_not, br_and, br_or, bnd1_mk, bnd2_mk, bnd3_mk, bnd4_mk, bnd5_mk, at_zero, at_succ, at_mid, unInt_mk, unBool_mk, unStr_mk, unBytes_mk, unSl_mk, unAgg_mk, unCons_mk, unNil_mk, endI, if_false]
    simp [encL]
  | .cons tg v k r, pre, t + 1, acc, ht, hn, hw, hl, hE => by
    simp only [Tl.len, Tl.nodes] at ht hn hl
    obtain ⟨ht1, hv, hk1, hk2, hr⟩ := hw
    obtain ⟨h1, h2, h3, h4⟩ := stepI pre (.agg [.int .i64 tg, .bytes v, .sl 62 k.enc]) r.enc (by rw [Tl.enc_len]; exact hl)
    rw [encL_cons] at hE ⊢
    have ht2 := tagB_len tg
    unfold S_encode_3 F_encode_3
    simp only [Tl.enc, br_t, br_f, br_dec, br_not, br_and, br_or, bnd1_mk, bnd2_mk, bnd3_mk, bnd4_mk, bnd5_mk, at_zero, at_succ, at_mid, unInt_mk, unBool_mk, unStr_mk, unBytes_mk, unSl_mk, unAgg_mk, unCons_mk, unNil_mk, h1, h2, if_true, Int.toNat_natCast, Constructed_eq N tg ht1, tagBytes_eq, lengthBytes_eq]
    generalize hB : (bif tagC tg then encL k else v) = B at *
    simp only [List.length_append] at hE
    have ih := encode_loop f hf r (pre ++ [.agg [.int .i64 tg, .bytes v, .sl 62 k.enc]]) t (acc ++ (tagB tg ++ lenB (B.length : Int) ++ B)) (by omega) (by omega) hr (by simp; omega) (by simp; omega)
    rw [← mid, ← h3] at ih
    cases hc : tagC tg with
    | true =>
      rw [hc] at hB
      simp only [cond_true] at hB
      subst hB
      rw [br_t, hf k (by omega) hk2 hk1 (by omega), bnd1_mk, concat4 N _ _ _ _ (by omega), bnd1_mk, ih]; simp
    | false =>
      rw [hc] at hB
      simp only [cond_false] at hB
      subst hB
      rw [br_f, concat4 N _ _ _ _ (by omega), bnd1_mk, ih]; simp
theorem encode_eq (N : Nat) : ∀ (M : Nat) (l : Tl), l.nodes < M → l.nodes < N → l.wf → L63 l → (encL l).length ≤ 4096 → s_encode N M l.enc = some (encL l)
  | 0, l, h, _, _, _, _ => by omega
  | M + 1, l, h, hN, hw, hl, hE => by
    have := l.len_le
    exact encode_loop N l.nodes (s_encode N M) (fun k hk hkw hkl hkE => encode_eq N M k (by omega) (by omega) hkw hkl hkE) l [] N [] (by omega) (Nat.le_refl _) hw (by simpa using hl) (by simpa using hE)
/-- Encode -/
def encR (l : Tl) : List UInt8 × Int := if okL 1 l = true then (if (encL l).length ≤ 4096 then (encL l, 0) else ([], 3)) else ([], 1)
theorem Encode_eq (l : Tl) (h : l.nodes < N) (hw : l.wf) (hl : L63 l) (hwt : l.wt ≤ 20000) : s_Encode N l.enc = some (encR l) := by
  unfold s_Encode encR
  rw [valid_eq N N l 1 h h hw hl (by omega), bnd1_mk, br_not]
  cases hok : okL 1 l with
  | false => rfl
  | true =>
    obtain ⟨s, s1, s2, s3, s4, s5⟩ := size_eq N N l 1 h h hw hl hwt hok
    simp only [br_t, if_true, s1, bnd1_mk, br_dec]
    by_cases hE : (encL l).length ≤ 4096
    · rw [if_pos hE, s2 (by omega), if_neg (by omega), encode_eq N N l h h hw hl hE, bnd1_mk]
    · rw [if_neg hE, if_pos (s3 (by omega))]
theorem rall_loop (f : List V → Option (List UInt8 × Bool)) (hf : ∀ (k : Tl), k.nodes < n → k.wf → L63 k → okL (d + 1) k = true → k.wt ≤ 20000 → f k.enc = some (if (encL k).length ≤ 4096 then (encL k, true) else ([], false))) :
    ∀ (l : Tl) (pre : List V) (t : Nat) (acc : List UInt8), l.len < t → l.nodes ≤ n → l.wf → pre.length + l.len ≤ 9223372036854775807 → okL d l = true → l.wt ≤ 20000 → acc.length ≤ 4096 →
      S_rall_3 N f (pre ++ l.enc) t acc (pre.length : Int) (fun l0 b1 l2 => some (l0, b1)) (fun l3 => some (l3, true)) = some (if acc.length + (encL l).length ≤ 4096 then (acc ++ encL l, true) else ([], false))
  | l, pre, 0, acc, ht, _, _, _, _, _, _ => by omega
  | .nil, pre, t + 1, acc, ht, _, _, _, _, _, ha => by
    unfold S_rall_3 F_rall_3
    simp only [Tl.enc, br_t, br_f, br_dec, br_not, br_and, br_or, bnd1_mk, bnd2_mk, bnd3_mk, bnd4_mk, bnd5_mk, at_zero, at_succ, at_mid, unInt_mk, unBool_mk, unStr_mk, unBytes_mk, unSl_mk, unAgg_mk, unCons_mk, unNil_mk, endI, if_false]
    simp [encL, ha]
  | .cons tg v k r, pre, t + 1, acc, ht, hn, hw, hl, hok, hwt, ha => by
    simp only [Tl.len, Tl.nodes, Tl.wt] at ht hn hl hwt
    obtain ⟨ht1, hv, hk1, hk2, hr⟩ := hw
    obtain ⟨h1, h2, h3, h4⟩ := stepI pre (.agg [.int .i64 tg, .bytes v, .sl 62 k.enc]) r.enc (by rw [Tl.enc_len]; exact hl)
    unfold okL at hok
    simp only [Bool.and_eq_true] at hok
    obtain ⟨⟨hd8, htv, hb⟩, hokr⟩ := hok
    have htr := tagV_range htv
    rw [encL_cons]
    have ht2 := tagB_len tg
    unfold S_rall_3 F_rall_3
    simp only [Tl.enc, br_t, br_f, br_dec, br_not, br_and, br_or, bnd1_mk, bnd2_mk, bnd3_mk, bnd4_mk, bnd5_mk, at_zero, at_succ, at_mid, unInt_mk, unBool_mk, unStr_mk, unBytes_mk, unSl_mk, unAgg_mk, unCons_mk, unNil_mk, h1, h2, if_true, Int.toNat_natCast, rConstructed_eq N tg ht1]
    have fin : ∀ (B : List UInt8), B.length ≤ 4096 → (bnd1 (s_rhead N tg (B.length : Int)) fun l59 =>
        if (acc.length + l59.length) * 1 ≤ 140737488355328 then
          if ((acc ++ l59).length + B.length) * 1 ≤ 140737488355328 then
            if 4096 < ((acc ++ l59 ++ B).length : Int) then some ([], false) else S_rall_3 N f (pre ++ .agg [.int .i64 tg, .bytes v, .sl 62 k.enc] :: r.enc) t (acc ++ l59 ++ B) (IntKind.i64.wrap ((pre.length : Int) + 1)) (fun l0 b1 l2 => some (l0, b1)) (fun l3 => some (l3, true))
          else none
        else none) = some (if acc.length + (tagB tg ++ lenB (B.length : Int) ++ B ++ encL r).length ≤ 4096 then (acc ++ (tagB tg ++ lenB (B.length : Int) ++ B ++ encL r), true) else ([], false)) := by
      intro B hB
      have hl2 := lenB_len (B.length : Int)
      rw [rhead_eq N tg _ (by omega) (by omega), bnd1_mk]
      simp only [List.length_append]
      rw [if_pos (by omega), if_pos (by omega)]
      by_cases c : 4096 < acc.length + ((tagB tg).length + (lenB (B.length : Int)).length) + B.length
      · rw [if_pos (by omega), if_neg (by omega)]
      · rw [if_neg (by omega)]
        have ih := rall_loop f hf r (pre ++ [.agg [.int .i64 tg, .bytes v, .sl 62 k.enc]]) t (acc ++ (tagB tg ++ lenB (B.length : Int)) ++ B) (by omega) (by omega) hr (by simp; omega) hokr (by omega) (by simp; omega)
        rw [← mid, ← h3] at ih
        rw [ih]
        simp only [List.length_append, List.append_assoc]
        congr 1
        by_cases c2 : acc.length + ((tagB tg).length + ((lenB (B.length : Int)).length + (B.length + (encL r).length))) ≤ 4096
        · rw [if_pos (by omega), if_pos (by omega)]
        · rw [if_neg (by omega), if_neg (by omega)]
    cases hc : tagC tg with
    | true =>
      rw [hc] at hb
      simp only [cond_true, Bool.and_eq_true] at hb
      rw [br_t, hf k (by omega) hk2 hk1 hb.2 (by omega)]
      simp only [cond_true]
      by_cases cE : (encL k).length ≤ 4096
      · rw [if_pos cE, bnd2_mk, br_t, if_neg (by omega)]
        exact fin (encL k) cE
      · rw [if_neg cE, bnd2_mk, br_f, if_neg (by simp only [List.length_append]; omega)]
    | false =>
      rw [br_f]
      simp only [cond_false]
      by_cases cE : v.length ≤ 4096
      · rw [if_neg (by omega)]
        exact fin v cE
      · rw [if_pos (by omega), if_neg (by simp only [List.length_append]; omega)]
theorem rall_eq (N : Nat) : ∀ (M : Nat) (l : Tl) (d : Int), l.nodes < M → l.nodes < N → l.wf → L63 l → okL d l = true → l.wt ≤ 20000 → s_rall N M l.enc = some (if (encL l).length ≤ 4096 then (encL l, true) else ([], false))
  | 0, l, d, h, _, _, _, _, _ => by omega
  | M + 1, l, d, h, hN, hw, hl, hok, hwt => by
    have := l.len_le
    have := rall_loop N l.nodes d (s_rall N M) (fun k hk hkw hkl hkok hkwt => rall_eq N M k (d + 1) (by omega) (by omega) hkw hkl hkok hkwt) l [] N [] (by omega) (Nat.le_refl _) hw (by simpa using hl) hok hwt (by simp)
    unfold s_rall B_rall
    simpa using this
theorem rEncode_eq (l : Tl) (h : l.nodes < N) (hw : l.wf) (hl : L63 l) (hwt : l.wt ≤ 20000) : s_rEncode N l.enc = some (encR l) := by
  unfold s_rEncode s_rRight encR
  rw [rright_eq N N l 1 h h hw hl (by omega), bnd1_mk, bnd1_mk, br_not]
  cases hok : okL 1 l with
  | false => rfl
  | true =>
    rw [br_t, rall_eq N N l 1 h h hw hl hok hwt]
    simp only [if_true]
    by_cases hE : (encL l).length ≤ 4096
    · rw [if_pos hE, if_pos hE]; rfl
    · rw [if_neg hE, if_neg hE]; rfl
end
end Go.Proofs.Ytllnklkjkjmjbaa.En
