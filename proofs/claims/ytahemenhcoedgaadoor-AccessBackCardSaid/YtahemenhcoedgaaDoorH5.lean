/- Several texts in one. -/
import Derived.Test.YtahemenhcoedgaaDoorH4
import Derived.Test.YtahemenhcoedgaaDoorH2
import Derived.ProofKit
import Derived.OpenShut
import Derived.ChangeOld
import Derived.Below

set_option linter.unusedSimpArgs false
set_option linter.unusedVariables false
set_option linter.unusedSectionVars false
/- Functions of the program in plain Lean, joined to the program by evaluation; printed by a program. -/
namespace Go.Proofs.YtahemenhcoedgaaDoor.En
open Go Go.Proofs
set_option maxRecDepth 100000
set_option linter.unusedVariables false
noncomputable def e_asame {R : Type} (s : Int → Int → List V → Int → Int → List V → Option (Bool)) (ds : List D) (K : List D → Option R) : Option R :=
  match ds with
  | [.agg [.v (.int .i64 x0) .no, .v (.int .i64 x1) .no, .v (.sl 24 x2) .no], .agg [.v (.int .i64 x3) .no, .v (.int .i64 x4) .no, .v (.sl 24 x5) .no]] => bnd1 (s x0 x1 x2 x3 x4 x5) fun r0 => K [.v (.bool r0) .no]
  | _ => none
noncomputable def e_EqualFuncC {R : Type} (s : List V → List V → Option (Bool)) (ds : List D) (K : List D → Option R) : Option R :=
  match ds with
  | [.v (.sl 24 x0) .no, .v (.sl 24 x1) .no, .clos 62 []] => bnd1 (s x0 x1) fun r0 => K [.v (.bool r0) .no]
  | _ => none
noncomputable def r_EqualFuncC (rs : List D) (_ : Mem) : Option (Bool) :=
  match rs with
  | [.v (.bool r0) _] => some (r0)
  | _ => none
noncomputable def F_EqualFuncC_4 {R : Type} (N : Nat) (f : Int → Int → List V → Int → Int → List V → Option (Bool)) (vs0 : List V) (vs1 : List V) (n2 : Int) (Lq : Int → Option R) (K0 : Bool → Option R) (K1 : Option R) (n3 : Int) : Option R :=
  br (decide (n3 < n2))
  (br (decide (0 ≤ n3) && decide (n3 < (↑vs1.length : Int)))
    (at? vs1 n3.toNat fun x0 =>
      x0.unAgg fun l1 =>
        unCons l1 fun x2 l3 =>
          V.unInt IntKind.i64 x2 fun n4 =>
            unCons l3 fun x5 l6 =>
              V.unInt IntKind.i64 x5 fun n7 =>
                unCons l6 fun x8 l9 =>
                  V.unSl 24 x8 fun l10 =>
                    unNil l9
                      (br (decide (0 ≤ n3) && decide (n3 < (↑vs0.length : Int)))
                        (at? vs0 n3.toNat fun x11 =>
                          x11.unAgg fun l12 =>
                            unCons l12 fun x13 l14 =>
                              V.unInt IntKind.i64 x13 fun n15 =>
                                unCons l14 fun x16 l17 =>
                                  V.unInt IntKind.i64 x16 fun n18 => unCons l17 fun x19 l20 => V.unSl 24 x19 fun l21 => unNil l20 (bnd1 (f n4 n7 l10 n15 n18 l21) fun b22 => br (!b22) (K0 false) (Lq (IntKind.i64.wrap (n3 + 1)))))
                        none))
    none)
  K1
noncomputable def S_EqualFuncC_4 {R : Type} (N : Nat) (f : Int → Int → List V → Int → Int → List V → Option (Bool)) (vs0 : List V) (vs1 : List V) (n2 : Int) : Nat → Int → (Bool → Option R) → (Option R) → Option R
  | 0, _, _, _ => none
  | t + 1, n3, K0, K1 => F_EqualFuncC_4 N f vs0 vs1 n2 (fun n3 => S_EqualFuncC_4 N f vs0 vs1 n2 t n3 K0 K1) K0 K1 n3
noncomputable def l_EqualFuncC_4 {R : Type} (N : Nat) (f : Int → Int → List V → Int → Int → List V → Option (Bool)) (ds : List D) (m : Mem) (K : Ex → List D → Mem → Option R) : Option R :=
  match ds, m with
  | [(.v (.sl 24 vs0) .no), (.clos 62 []), (.v (.sl 24 vs1) .no), (.v (.int .i64 n2) .no), (.v (.int .i64 n3) .no)], [[]] => S_EqualFuncC_4 N f vs0 vs1 n2 N n3 (fun a0 => K .ret [(.v (.bool a0) .no)] [[]]) (K (.exit 0) [.any] [[]])
  | _, _ => none
noncomputable def s_EqualFuncC (N : Nat) (f : Int → Int → List V → Int → Int → List V → Option (Bool)) (x0 : List V) (x1 : List V) : Option (Bool) :=
  br (!decide ((↑x0.length : Int) = (↑x1.length : Int))) (some false) (S_EqualFuncC_4 N f x1 x0 (↑x0.length : Int) N 0 (fun b0 => some b0) (some true))
noncomputable def cx_EqualFuncC (N : Nat) (f : Int → Int → List V → Int → Int → List V → Option (Bool)) : Cx := { T := T, isPure := tabP [⟨62, e_asame f⟩], pureK := fun g ds K => tabK [⟨62, e_asame f⟩] g ds K, memK := fun g dst ds m K => tabMK [] g dst ds m K, meth := tabM [], keep := fun r => match r with | 4 => [1, 2, 15, 16, 17] | _ => [], keepX := fun r => match r with | 4 => [6] | _ => [], loopT := fun r ds m K => match r with | 4 => l_EqualFuncC_4 N f ds m K | _ => none, jumps := 9 }
theorem F_EqualFuncC_4_ok {R : Type} (N : Nat) (f : Int → Int → List V → Int → Int → List V → Option (Bool)) (vs0 : List V) (vs1 : List V) (n2 : Int) (n3 : Int) (L : List D → Mem → Option R) (K : Ex → List D → Mem → Option R) :
    roundK (fun st K => codeK (cx_EqualFuncC N f) (loopN Tryd.f87 0) st K) 32 [1, 2, 15, 16, 17] [6] L [(.v (.sl 24 vs0) .no), (.clos 62 []), (.v (.sl 24 vs1) .no), (.v (.int .i64 n2) .no), (.v (.int .i64 n3) .no)] [[]] K = F_EqualFuncC_4 N f vs0 vs1 n2 (fun n3 => L [(.v (.sl 24 vs0) .no), (.clos 62 []), (.v (.sl 24 vs1) .no), (.v (.int .i64 n2) .no), (.v (.int .i64 n3) .no)] [[]]) (fun a0 => K .ret [(.v (.bool a0) .no)] [[]]) (K (.exit 0) [.any] [[]]) n3 := by
  kernel_rfl
theorem S_EqualFuncC_4_ok {R : Type} (N : Nat) (f : Int → Int → List V → Int → Int → List V → Option (Bool)) (vs0 : List V) (vs1 : List V) (n2 : Int) (K : Ex → List D → Mem → Option R) : ∀ (t : Nat) (n3 : Int),
    loopK (fun st K => codeK (cx_EqualFuncC N f) (loopN Tryd.f87 0) st K) 32 [1, 2, 15, 16, 17] [6] t [(.v (.sl 24 vs0) .no), (.clos 62 []), (.v (.sl 24 vs1) .no), (.v (.int .i64 n2) .no), (.v (.int .i64 n3) .no)] [[]] K = S_EqualFuncC_4 N f vs0 vs1 n2 t n3 (fun a0 => K .ret [(.v (.bool a0) .no)] [[]]) (K (.exit 0) [.any] [[]])
  | 0, n3 => rfl
  | t + 1, n3 => (F_EqualFuncC_4_ok N f vs0 vs1 n2 n3 _ K).trans (congrArg (fun L => F_EqualFuncC_4 N f vs0 vs1 n2 L (fun a0 => K .ret [(.v (.bool a0) .no)] [[]]) (K (.exit 0) [.any] [[]]) n3) (funext fun n3 => S_EqualFuncC_4_ok N f vs0 vs1 n2 K t n3))
theorem s_EqualFuncC_ok (N : Nat) (f : Int → Int → List V → Int → Int → List V → Option (Bool)) (x0 : List V) (x1 : List V) : bodyK (cx_EqualFuncC N f) Tryd.f87 [.v (.sl 24 x0) .no, .v (.sl 24 x1) .no, .clos 62 []] [] r_EqualFuncC = s_EqualFuncC N f x0 x1 := by
  kernel_rfl
theorem go_asame : Goes Tryd.prog 62 := goes_of Tryd.func62 (by kernel_rfl) (c := bodyOf Tryd.f62) (by kernel_rfl)
theorem eo_asame (s : Int → Int → List V → Int → Int → List V → Option (Bool)) (hs : ∀ (x0 : Int) (x1 : Int) (x2 : List V) (x3 : Int) (x4 : Int) (x5 : List V) (r0 : Bool), s x0 x1 x2 x3 x4 x5 = some r0 → PureRet Tryd.prog T 62 [.agg [.v (.int .i64 x0) .no, .v (.int .i64 x1) .no, .v (.sl 24 x2) .no], .agg [.v (.int .i64 x3) .no, .v (.int .i64 x4) .no, .v (.sl 24 x5) .no]] [.v (.bool r0) .no]) : EntOK Tryd.prog T ⟨62, e_asame s⟩ := by
  refine ⟨go_asame, fun R ds K r h => ?_, fun R ds K => ?_⟩
  · simp only [e_asame] at h
    split at h
    · obtain ⟨r0, h1, h2⟩ := bnd1_some h
      exact ⟨_, h2, hs _ _ _ _ _ _ _ h1⟩
    · cases h
  · simp only [e_asame]
    split
    · rw [bnd1_b]; rfl
    · rfl
theorem go_EqualFuncC : Goes Tryd.prog 87 := goes_of Tryd.func87 (by kernel_rfl) (c := bodyOf Tryd.f87) (by kernel_rfl)
theorem eo_EqualFuncC (s : List V → List V → Option (Bool)) (hs : ∀ (x0 : List V) (x1 : List V) (r0 : Bool), s x0 x1 = some r0 → PureRet Tryd.prog T 87 [.v (.sl 24 x0) .no, .v (.sl 24 x1) .no, .clos 62 []] [.v (.bool r0) .no]) : EntOK Tryd.prog T ⟨87, e_EqualFuncC s⟩ := by
  refine ⟨go_EqualFuncC, fun R ds K r h => ?_, fun R ds K => ?_⟩
  · simp only [e_EqualFuncC] at h
    split at h
    · obtain ⟨r0, h1, h2⟩ := bnd1_some h
      exact ⟨_, h2, hs _ _ _ h1⟩
    · cases h
  · simp only [e_EqualFuncC]
    split
    · rw [bnd1_b]; rfl
    · rfl
theorem co_EqualFuncC (N : Nat) (f : Int → Int → List V → Int → Int → List V → Option (Bool)) (hf : ∀ (x0 : Int) (x1 : Int) (x2 : List V) (x3 : Int) (x4 : Int) (x5 : List V) (r0 : Bool), f x0 x1 x2 x3 x4 x5 = some r0 → PureRet Tryd.prog T 62 [.agg [.v (.int .i64 x0) .no, .v (.int .i64 x1) .no, .v (.sl 24 x2) .no], .agg [.v (.int .i64 x3) .no, .v (.int .i64 x4) .no, .v (.sl 24 x5) .no]] [.v (.bool r0) .no]) : CxOK Tryd.prog (cx_EqualFuncC N f) :=
  cxOK_of2 (es := [⟨62, e_asame f⟩]) (me := []) (ms := []) T_ok ⟨eo_asame f hf, trivial⟩ trivial trivial rfl (fun _ _ _ _ => rfl) (fun _ _ _ _ _ _ => rfl) rfl
theorem lk_EqualFuncC_4 (N : Nat) (f : Int → Int → List V → Int → Int → List V → Option (Bool)) : LoopOK (cx_EqualFuncC N f) 32 (loopN Tryd.f87 0) := by
  refine loopOK_of (rid := 4) (by kernel_rfl) rfl rfl fun R ds m K r h => ?_
  have h : l_EqualFuncC_4 N f ds m K = some r := h
  unfold l_EqualFuncC_4 at h
  split at h
  · exact ⟨N, Eq.trans (S_EqualFuncC_4_ok ..) h⟩
  · cases h
theorem lo_EqualFuncC (N : Nat) (f : Int → Int → List V → Int → Int → List V → Option (Bool)) : LoopsOK (cx_EqualFuncC N f) Tryd.f87.ntmps (bodyOf Tryd.f87) :=
  loopsOK_of (k := 1) (by kernel_rfl) ⟨trivial, lk_EqualFuncC_4 N f⟩
theorem p_EqualFuncC (N : Nat) (f : Int → Int → List V → Int → Int → List V → Option (Bool)) (hf : ∀ (x0 : Int) (x1 : Int) (x2 : List V) (x3 : Int) (x4 : Int) (x5 : List V) (r0 : Bool), f x0 x1 x2 x3 x4 x5 = some r0 → PureRet Tryd.prog T 62 [.agg [.v (.int .i64 x0) .no, .v (.int .i64 x1) .no, .v (.sl 24 x2) .no], .agg [.v (.int .i64 x3) .no, .v (.int .i64 x4) .no, .v (.sl 24 x5) .no]] [.v (.bool r0) .no]) (x0 : List V) (x1 : List V) (r0 : Bool) (h : s_EqualFuncC N f x0 x1 = some r0) : PureRet Tryd.prog T 87 [.v (.sl 24 x0) .no, .v (.sl 24 x1) .no, .clos 62 []] [.v (.bool r0) .no] :=
  pure_of (cx := cx_EqualFuncC N f) (by kernel_rfl) (co_EqualFuncC N f hf) Tryd.func87 (by kernel_rfl) (by kernel_rfl) (lo_EqualFuncC N f) rfl rfl rfl (rf := r_EqualFuncC) ((s_EqualFuncC_ok N f x0 x1).trans h) (fun rs' m h => by
    unfold r_EqualFuncC at h
    split at h
    · cases h; exact ⟨rfl, rfl⟩
    · cases h)
noncomputable def r_asame (rs : List D) (_ : Mem) : Option (Bool) :=
  match rs with
  | [.v (.bool r0) _] => some (r0)
  | _ => none
noncomputable def B_asame (N : Nat) (f : Int → Int → List V → Int → Int → List V → Option (Bool)) (x0 : Int) (x1 : Int) (x2 : List V) (x3 : Int) (x4 : Int) (x5 : List V) : Option (Bool) :=
  bnd3 (s_nodeOf N x0 x1 x2) fun n0 n1 n2 => bnd3 (s_nodeOf N x3 x4 x5) fun n3 n4 n5 => br (decide (n0 = n3) && (decide (n1 = n4) && (decide (n2 = n5) && true))) (bnd1 (s_EqualFuncC N f x2 x5) fun b6 => some b6) (some false)
noncomputable def s_asame (N : Nat) : Nat → Int → Int → List V → Int → Int → List V → Option (Bool)
  | 0, _, _, _, _, _, _ => none
  | n + 1, x0, x1, x2, x3, x4, x5 => B_asame N (s_asame N n) x0 x1 x2 x3 x4 x5
noncomputable def cx_asame (N : Nat) (f : Int → Int → List V → Int → Int → List V → Option (Bool)) : Cx := { T := T, isPure := tabP [⟨62, e_asame f⟩, ⟨87, e_EqualFuncC (s_EqualFuncC N f)⟩, ⟨86, e_nodeOf (s_nodeOf N)⟩], pureK := fun g ds K => tabK [⟨62, e_asame f⟩, ⟨87, e_EqualFuncC (s_EqualFuncC N f)⟩, ⟨86, e_nodeOf (s_nodeOf N)⟩] g ds K, memK := fun g dst ds m K => tabMK [] g dst ds m K, meth := tabM [], keep := fun _ => [], keepX := fun _ => [], loopT := fun _ _ _ _ => none, jumps := 9 }
theorem B_asame_ok (N : Nat) (f : Int → Int → List V → Int → Int → List V → Option (Bool)) (x0 : Int) (x1 : Int) (x2 : List V) (x3 : Int) (x4 : Int) (x5 : List V) : bodyK (cx_asame N f) Tryd.f62 [.agg [.v (.int .i64 x0) .no, .v (.int .i64 x1) .no, .v (.sl 24 x2) .no], .agg [.v (.int .i64 x3) .no, .v (.int .i64 x4) .no, .v (.sl 24 x5) .no]] [] r_asame = B_asame N f x0 x1 x2 x3 x4 x5 := by
  kernel_rfl
theorem co_asame (N : Nat) (f : Int → Int → List V → Int → Int → List V → Option (Bool)) (hf : ∀ (x0 : Int) (x1 : Int) (x2 : List V) (x3 : Int) (x4 : Int) (x5 : List V) (r0 : Bool), f x0 x1 x2 x3 x4 x5 = some r0 → PureRet Tryd.prog T 62 [.agg [.v (.int .i64 x0) .no, .v (.int .i64 x1) .no, .v (.sl 24 x2) .no], .agg [.v (.int .i64 x3) .no, .v (.int .i64 x4) .no, .v (.sl 24 x5) .no]] [.v (.bool r0) .no]) : CxOK Tryd.prog (cx_asame N f) :=
  cxOK_of2 (es := [⟨62, e_asame f⟩, ⟨87, e_EqualFuncC (s_EqualFuncC N f)⟩, ⟨86, e_nodeOf (s_nodeOf N)⟩]) (me := []) (ms := []) T_ok ⟨eo_asame f hf, eo_EqualFuncC _ (p_EqualFuncC N f hf), eo_nodeOf _ (p_nodeOf N), trivial⟩ trivial trivial rfl (fun _ _ _ _ => rfl) (fun _ _ _ _ _ _ => rfl) rfl
theorem lo_asame (N : Nat) (f : Int → Int → List V → Int → Int → List V → Option (Bool)) : LoopsOK (cx_asame N f) Tryd.f62.ntmps (bodyOf Tryd.f62) :=
  loopsOK_of (k := 0) (by kernel_rfl) trivial
theorem p_asame (N : Nat) : ∀ (M : Nat) (x0 : Int) (x1 : Int) (x2 : List V) (x3 : Int) (x4 : Int) (x5 : List V) (r0 : Bool), s_asame N M x0 x1 x2 x3 x4 x5 = some r0 → PureRet Tryd.prog T 62 [.agg [.v (.int .i64 x0) .no, .v (.int .i64 x1) .no, .v (.sl 24 x2) .no], .agg [.v (.int .i64 x3) .no, .v (.int .i64 x4) .no, .v (.sl 24 x5) .no]] [.v (.bool r0) .no]
  | 0, _, _, _, _, _, _, _, h => by cases h
  | M + 1, x0, x1, x2, x3, x4, x5, r0, h => pure_of (cx := cx_asame N (s_asame N M)) (by kernel_rfl) (co_asame N (s_asame N M) (p_asame N M)) Tryd.func62 (by kernel_rfl) (by kernel_rfl) (lo_asame N (s_asame N M)) rfl rfl rfl (rf := r_asame) ((B_asame_ok N (s_asame N M) x0 x1 x2 x3 x4 x5).trans h) (fun rs' m h => by
    unfold r_asame at h
    split at h
    · cases h; exact ⟨rfl, rfl⟩
    · cases h)
noncomputable def e_aSame1 {R : Type} (s : Int → Int → Int → List V → Int → Int → Int → List V → Option (Bool)) (ds : List D) (K : List D → Option R) : Option R :=
  match ds with
  | [.agg [.v (.int .i64 x0) .no, .v (.int .i64 x1) .no, .v (.int .i64 x2) .no, .v (.sl 24 x3) .no], .agg [.v (.int .i64 x4) .no, .v (.int .i64 x5) .no, .v (.int .i64 x6) .no, .v (.sl 24 x7) .no]] => bnd1 (s x0 x1 x2 x3 x4 x5 x6 x7) fun r0 => K [.v (.bool r0) .no]
  | _ => none
noncomputable def r_aSame1 (rs : List D) (_ : Mem) : Option (Bool) :=
  match rs with
  | [.v (.bool r0) _] => some (r0)
  | _ => none
noncomputable def s_aSame1 (N : Nat) (x0 : Int) (x1 : Int) (x2 : Int) (x3 : List V) (x4 : Int) (x5 : Int) (x6 : Int) (x7 : List V) : Option (Bool) :=
  br (decide (x0 = x4)) (bnd1 (s_asame N N x1 x2 x3 x5 x6 x7) fun b0 => some b0) (some false)
noncomputable def cx_aSame1 (N : Nat) : Cx := { T := T, isPure := tabP [⟨62, e_asame (s_asame N N)⟩], pureK := fun g ds K => tabK [⟨62, e_asame (s_asame N N)⟩] g ds K, memK := fun g dst ds m K => tabMK [] g dst ds m K, meth := tabM [], keep := fun _ => [], keepX := fun _ => [], loopT := fun _ _ _ _ => none, jumps := 9 }
theorem s_aSame1_ok (N : Nat) (x0 : Int) (x1 : Int) (x2 : Int) (x3 : List V) (x4 : Int) (x5 : Int) (x6 : Int) (x7 : List V) : bodyK (cx_aSame1 N) Tryd.f61 [.agg [.v (.int .i64 x0) .no, .v (.int .i64 x1) .no, .v (.int .i64 x2) .no, .v (.sl 24 x3) .no], .agg [.v (.int .i64 x4) .no, .v (.int .i64 x5) .no, .v (.int .i64 x6) .no, .v (.sl 24 x7) .no]] [] r_aSame1 = s_aSame1 N x0 x1 x2 x3 x4 x5 x6 x7 := by
  kernel_rfl
theorem go_aSame1 : Goes Tryd.prog 61 := goes_of Tryd.func61 (by kernel_rfl) (c := bodyOf Tryd.f61) (by kernel_rfl)
theorem eo_aSame1 (s : Int → Int → Int → List V → Int → Int → Int → List V → Option (Bool)) (hs : ∀ (x0 : Int) (x1 : Int) (x2 : Int) (x3 : List V) (x4 : Int) (x5 : Int) (x6 : Int) (x7 : List V) (r0 : Bool), s x0 x1 x2 x3 x4 x5 x6 x7 = some r0 → PureRet Tryd.prog T 61 [.agg [.v (.int .i64 x0) .no, .v (.int .i64 x1) .no, .v (.int .i64 x2) .no, .v (.sl 24 x3) .no], .agg [.v (.int .i64 x4) .no, .v (.int .i64 x5) .no, .v (.int .i64 x6) .no, .v (.sl 24 x7) .no]] [.v (.bool r0) .no]) : EntOK Tryd.prog T ⟨61, e_aSame1 s⟩ := by
  refine ⟨go_aSame1, fun R ds K r h => ?_, fun R ds K => ?_⟩
  · simp only [e_aSame1] at h
    split at h
    · obtain ⟨r0, h1, h2⟩ := bnd1_some h
      exact ⟨_, h2, hs _ _ _ _ _ _ _ _ _ h1⟩
    · cases h
  · simp only [e_aSame1]
    split
    · rw [bnd1_b]; rfl
    · rfl
theorem co_aSame1 (N : Nat) : CxOK Tryd.prog (cx_aSame1 N) :=
  cxOK_of2 (es := [⟨62, e_asame (s_asame N N)⟩]) (me := []) (ms := []) T_ok ⟨eo_asame _ (p_asame N N), trivial⟩ trivial trivial rfl (fun _ _ _ _ => rfl) (fun _ _ _ _ _ _ => rfl) rfl
theorem lo_aSame1 (N : Nat) : LoopsOK (cx_aSame1 N) Tryd.f61.ntmps (bodyOf Tryd.f61) :=
  loopsOK_of (k := 0) (by kernel_rfl) trivial
theorem p_aSame1 (N : Nat) (x0 : Int) (x1 : Int) (x2 : Int) (x3 : List V) (x4 : Int) (x5 : Int) (x6 : Int) (x7 : List V) (r0 : Bool) (h : s_aSame1 N x0 x1 x2 x3 x4 x5 x6 x7 = some r0) : PureRet Tryd.prog T 61 [.agg [.v (.int .i64 x0) .no, .v (.int .i64 x1) .no, .v (.int .i64 x2) .no, .v (.sl 24 x3) .no], .agg [.v (.int .i64 x4) .no, .v (.int .i64 x5) .no, .v (.int .i64 x6) .no, .v (.sl 24 x7) .no]] [.v (.bool r0) .no] :=
  pure_of (cx := cx_aSame1 N) (by kernel_rfl) (co_aSame1 N) Tryd.func61 (by kernel_rfl) (by kernel_rfl) (lo_aSame1 N) rfl rfl rfl (rf := r_aSame1) ((s_aSame1_ok N x0 x1 x2 x3 x4 x5 x6 x7).trans h) (fun rs' m h => by
    unfold r_aSame1 at h
    split at h
    · cases h; exact ⟨rfl, rfl⟩
    · cases h)
noncomputable def e_EqualFuncR {R : Type} (s : List V → List V → Option (Bool)) (ds : List D) (K : List D → Option R) : Option R :=
  match ds with
  | [.v (.sl 53 x0) .no, .v (.sl 53 x1) .no, .clos 61 []] => bnd1 (s x0 x1) fun r0 => K [.v (.bool r0) .no]
  | _ => none
noncomputable def r_EqualFuncR (rs : List D) (_ : Mem) : Option (Bool) :=
  match rs with
  | [.v (.bool r0) _] => some (r0)
  | _ => none
noncomputable def F_EqualFuncR_4 {R : Type} (N : Nat) (vs0 : List V) (vs1 : List V) (n2 : Int) (Lq : Int → Option R) (K0 : Bool → Option R) (K1 : Option R) (n3 : Int) : Option R :=
  br (decide (n3 < n2))
  (br (decide (0 ≤ n3) && decide (n3 < (↑vs1.length : Int)))
    (at? vs1 n3.toNat fun x0 =>
      x0.unAgg fun l1 =>
        unCons l1 fun x2 l3 =>
          V.unInt IntKind.i64 x2 fun n4 =>
            unCons l3 fun x5 l6 =>
              V.unInt IntKind.i64 x5 fun n7 =>
                unCons l6 fun x8 l9 =>
                  V.unInt IntKind.i64 x8 fun n10 =>
                    unCons l9 fun x11 l12 =>
                      V.unSl 24 x11 fun l13 =>
                        unNil l12
                          (br (decide (0 ≤ n3) && decide (n3 < (↑vs0.length : Int)))
                            (at? vs0 n3.toNat fun x14 =>
                              x14.unAgg fun l15 =>
                                unCons l15 fun x16 l17 =>
                                  V.unInt IntKind.i64 x16 fun n18 =>
                                    unCons l17 fun x19 l20 =>
                                      V.unInt IntKind.i64 x19 fun n21 =>
                                        unCons l20 fun x22 l23 =>
                                          V.unInt IntKind.i64 x22 fun n24 =>
                                            unCons l23 fun x25 l26 => V.unSl 24 x25 fun l27 => unNil l26 (bnd1 (s_aSame1 N n4 n7 n10 l13 n18 n21 n24 l27) fun b28 => br (!b28) (K0 false) (Lq (IntKind.i64.wrap (n3 + 1)))))
                            none))
    none)
  K1
noncomputable def S_EqualFuncR_4 {R : Type} (N : Nat) (vs0 : List V) (vs1 : List V) (n2 : Int) : Nat → Int → (Bool → Option R) → (Option R) → Option R
  | 0, _, _, _ => none
  | t + 1, n3, K0, K1 => F_EqualFuncR_4 N vs0 vs1 n2 (fun n3 => S_EqualFuncR_4 N vs0 vs1 n2 t n3 K0 K1) K0 K1 n3
noncomputable def l_EqualFuncR_4 {R : Type} (N : Nat) (ds : List D) (m : Mem) (K : Ex → List D → Mem → Option R) : Option R :=
  match ds, m with
  | [(.v (.sl 53 vs0) .no), (.clos 61 []), (.v (.sl 53 vs1) .no), (.v (.int .i64 n2) .no), (.v (.int .i64 n3) .no)], [[]] => S_EqualFuncR_4 N vs0 vs1 n2 N n3 (fun a0 => K .ret [(.v (.bool a0) .no)] [[]]) (K (.exit 0) [.any] [[]])
  | _, _ => none
noncomputable def s_EqualFuncR (N : Nat) (x0 : List V) (x1 : List V) : Option (Bool) :=
  br (!decide ((↑x0.length : Int) = (↑x1.length : Int))) (some false) (S_EqualFuncR_4 N x1 x0 (↑x0.length : Int) N 0 (fun b0 => some b0) (some true))
noncomputable def cx_EqualFuncR (N : Nat) : Cx := { T := T, isPure := tabP [⟨61, e_aSame1 (s_aSame1 N)⟩], pureK := fun g ds K => tabK [⟨61, e_aSame1 (s_aSame1 N)⟩] g ds K, memK := fun g dst ds m K => tabMK [] g dst ds m K, meth := tabM [], keep := fun r => match r with | 4 => [1, 2, 15, 16, 17] | _ => [], keepX := fun r => match r with | 4 => [6] | _ => [], loopT := fun r ds m K => match r with | 4 => l_EqualFuncR_4 N ds m K | _ => none, jumps := 9 }
theorem F_EqualFuncR_4_ok {R : Type} (N : Nat) (vs0 : List V) (vs1 : List V) (n2 : Int) (n3 : Int) (L : List D → Mem → Option R) (K : Ex → List D → Mem → Option R) :
    roundK (fun st K => codeK (cx_EqualFuncR N) (loopN Tryd.f60 0) st K) 32 [1, 2, 15, 16, 17] [6] L [(.v (.sl 53 vs0) .no), (.clos 61 []), (.v (.sl 53 vs1) .no), (.v (.int .i64 n2) .no), (.v (.int .i64 n3) .no)] [[]] K = F_EqualFuncR_4 N vs0 vs1 n2 (fun n3 => L [(.v (.sl 53 vs0) .no), (.clos 61 []), (.v (.sl 53 vs1) .no), (.v (.int .i64 n2) .no), (.v (.int .i64 n3) .no)] [[]]) (fun a0 => K .ret [(.v (.bool a0) .no)] [[]]) (K (.exit 0) [.any] [[]]) n3 := by
  kernel_rfl
theorem S_EqualFuncR_4_ok {R : Type} (N : Nat) (vs0 : List V) (vs1 : List V) (n2 : Int) (K : Ex → List D → Mem → Option R) : ∀ (t : Nat) (n3 : Int),
    loopK (fun st K => codeK (cx_EqualFuncR N) (loopN Tryd.f60 0) st K) 32 [1, 2, 15, 16, 17] [6] t [(.v (.sl 53 vs0) .no), (.clos 61 []), (.v (.sl 53 vs1) .no), (.v (.int .i64 n2) .no), (.v (.int .i64 n3) .no)] [[]] K = S_EqualFuncR_4 N vs0 vs1 n2 t n3 (fun a0 => K .ret [(.v (.bool a0) .no)] [[]]) (K (.exit 0) [.any] [[]])
  | 0, n3 => rfl
  | t + 1, n3 => (F_EqualFuncR_4_ok N vs0 vs1 n2 n3 _ K).trans (congrArg (fun L => F_EqualFuncR_4 N vs0 vs1 n2 L (fun a0 => K .ret [(.v (.bool a0) .no)] [[]]) (K (.exit 0) [.any] [[]]) n3) (funext fun n3 => S_EqualFuncR_4_ok N vs0 vs1 n2 K t n3))
theorem s_EqualFuncR_ok (N : Nat) (x0 : List V) (x1 : List V) : bodyK (cx_EqualFuncR N) Tryd.f60 [.v (.sl 53 x0) .no, .v (.sl 53 x1) .no, .clos 61 []] [] r_EqualFuncR = s_EqualFuncR N x0 x1 := by
  kernel_rfl
theorem go_EqualFuncR : Goes Tryd.prog 60 := goes_of Tryd.func60 (by kernel_rfl) (c := bodyOf Tryd.f60) (by kernel_rfl)
theorem eo_EqualFuncR (s : List V → List V → Option (Bool)) (hs : ∀ (x0 : List V) (x1 : List V) (r0 : Bool), s x0 x1 = some r0 → PureRet Tryd.prog T 60 [.v (.sl 53 x0) .no, .v (.sl 53 x1) .no, .clos 61 []] [.v (.bool r0) .no]) : EntOK Tryd.prog T ⟨60, e_EqualFuncR s⟩ := by
  refine ⟨go_EqualFuncR, fun R ds K r h => ?_, fun R ds K => ?_⟩
  · simp only [e_EqualFuncR] at h
    split at h
    · obtain ⟨r0, h1, h2⟩ := bnd1_some h
      exact ⟨_, h2, hs _ _ _ h1⟩
    · cases h
  · simp only [e_EqualFuncR]
    split
    · rw [bnd1_b]; rfl
    · rfl
theorem co_EqualFuncR (N : Nat) : CxOK Tryd.prog (cx_EqualFuncR N) :=
  cxOK_of2 (es := [⟨61, e_aSame1 (s_aSame1 N)⟩]) (me := []) (ms := []) T_ok ⟨eo_aSame1 _ (p_aSame1 N), trivial⟩ trivial trivial rfl (fun _ _ _ _ => rfl) (fun _ _ _ _ _ _ => rfl) rfl
theorem lk_EqualFuncR_4 (N : Nat) : LoopOK (cx_EqualFuncR N) 32 (loopN Tryd.f60 0) := by
  refine loopOK_of (rid := 4) (by kernel_rfl) rfl rfl fun R ds m K r h => ?_
  have h : l_EqualFuncR_4 N ds m K = some r := h
  unfold l_EqualFuncR_4 at h
  split at h
  · exact ⟨N, Eq.trans (S_EqualFuncR_4_ok ..) h⟩
  · cases h
theorem lo_EqualFuncR (N : Nat) : LoopsOK (cx_EqualFuncR N) Tryd.f60.ntmps (bodyOf Tryd.f60) :=
  loopsOK_of (k := 1) (by kernel_rfl) ⟨trivial, lk_EqualFuncR_4 N⟩
theorem p_EqualFuncR (N : Nat) (x0 : List V) (x1 : List V) (r0 : Bool) (h : s_EqualFuncR N x0 x1 = some r0) : PureRet Tryd.prog T 60 [.v (.sl 53 x0) .no, .v (.sl 53 x1) .no, .clos 61 []] [.v (.bool r0) .no] :=
  pure_of (cx := cx_EqualFuncR N) (by kernel_rfl) (co_EqualFuncR N) Tryd.func60 (by kernel_rfl) (by kernel_rfl) (lo_EqualFuncR N) rfl rfl rfl (rf := r_EqualFuncR) ((s_EqualFuncR_ok N x0 x1).trans h) (fun rs' m h => by
    unfold r_EqualFuncR at h
    split at h
    · cases h; exact ⟨rfl, rfl⟩
    · cases h)
noncomputable def e_aSame {R : Type} (s : List V → List V → Option (Bool)) (ds : List D) (K : List D → Option R) : Option R :=
  match ds with
  | [.v (.sl 53 x0) .no, .v (.sl 53 x1) .no] => bnd1 (s x0 x1) fun r0 => K [.v (.bool r0) .no]
  | _ => none
noncomputable def r_aSame (rs : List D) (_ : Mem) : Option (Bool) :=
  match rs with
  | [.v (.bool r0) _] => some (r0)
  | _ => none
noncomputable def s_aSame (N : Nat) (x0 : List V) (x1 : List V) : Option (Bool) :=
  bnd1 (s_EqualFuncR N x0 x1) fun b0 => some b0
noncomputable def cx_aSame (N : Nat) : Cx := { T := T, isPure := tabP [⟨60, e_EqualFuncR (s_EqualFuncR N)⟩, ⟨61, e_aSame1 (s_aSame1 N)⟩], pureK := fun g ds K => tabK [⟨60, e_EqualFuncR (s_EqualFuncR N)⟩, ⟨61, e_aSame1 (s_aSame1 N)⟩] g ds K, memK := fun g dst ds m K => tabMK [] g dst ds m K, meth := tabM [], keep := fun _ => [], keepX := fun _ => [], loopT := fun _ _ _ _ => none, jumps := 9 }
theorem s_aSame_ok (N : Nat) (x0 : List V) (x1 : List V) : bodyK (cx_aSame N) Tryd.f34 [.v (.sl 53 x0) .no, .v (.sl 53 x1) .no] [] r_aSame = s_aSame N x0 x1 := by
  kernel_rfl
theorem go_aSame : Goes Tryd.prog 34 := goes_of Tryd.func34 (by kernel_rfl) (c := bodyOf Tryd.f34) (by kernel_rfl)
theorem eo_aSame (s : List V → List V → Option (Bool)) (hs : ∀ (x0 : List V) (x1 : List V) (r0 : Bool), s x0 x1 = some r0 → PureRet Tryd.prog T 34 [.v (.sl 53 x0) .no, .v (.sl 53 x1) .no] [.v (.bool r0) .no]) : EntOK Tryd.prog T ⟨34, e_aSame s⟩ := by
  refine ⟨go_aSame, fun R ds K r h => ?_, fun R ds K => ?_⟩
  · simp only [e_aSame] at h
    split at h
    · obtain ⟨r0, h1, h2⟩ := bnd1_some h
      exact ⟨_, h2, hs _ _ _ h1⟩
    · cases h
  · simp only [e_aSame]
    split
    · rw [bnd1_b]; rfl
    · rfl
theorem co_aSame (N : Nat) : CxOK Tryd.prog (cx_aSame N) :=
  cxOK_of2 (es := [⟨60, e_EqualFuncR (s_EqualFuncR N)⟩, ⟨61, e_aSame1 (s_aSame1 N)⟩]) (me := []) (ms := []) T_ok ⟨eo_EqualFuncR _ (p_EqualFuncR N), eo_aSame1 _ (p_aSame1 N), trivial⟩ trivial trivial rfl (fun _ _ _ _ => rfl) (fun _ _ _ _ _ _ => rfl) rfl
theorem lo_aSame (N : Nat) : LoopsOK (cx_aSame N) Tryd.f34.ntmps (bodyOf Tryd.f34) :=
  loopsOK_of (k := 0) (by kernel_rfl) trivial
theorem p_aSame (N : Nat) (x0 : List V) (x1 : List V) (r0 : Bool) (h : s_aSame N x0 x1 = some r0) : PureRet Tryd.prog T 34 [.v (.sl 53 x0) .no, .v (.sl 53 x1) .no] [.v (.bool r0) .no] :=
  pure_of (cx := cx_aSame N) (by kernel_rfl) (co_aSame N) Tryd.func34 (by kernel_rfl) (by kernel_rfl) (lo_aSame N) rfl rfl rfl (rf := r_aSame) ((s_aSame_ok N x0 x1).trans h) (fun rs' m h => by
    unfold r_aSame at h
    split at h
    · cases h; exact ⟨rfl, rfl⟩
    · cases h)
noncomputable def e_qhas {R : Type} (s : Int → Int → Option (Bool)) (ds : List D) (K : List D → Option R) : Option R :=
  match ds with
  | [.v (.int .i64 x0) .no, .v (.int .i64 x1) .no] => bnd1 (s x0 x1) fun r0 => K [.v (.bool r0) .no]
  | _ => none
noncomputable def r_qhas (rs : List D) (_ : Mem) : Option (Bool) :=
  match rs with
  | [.v (.bool r0) _] => some (r0)
  | _ => none
noncomputable def s_qhas (N : Nat) (x0 : Int) (x1 : Int) : Option (Bool) :=
  some (decide (bitsI BinOp.and IntKind.i64 x0 x1 = x1))
noncomputable def cx_qhas (N : Nat) : Cx := { T := T, isPure := tabP [], pureK := fun g ds K => tabK [] g ds K, memK := fun g dst ds m K => tabMK [] g dst ds m K, meth := tabM [], keep := fun _ => [], keepX := fun _ => [], loopT := fun _ _ _ _ => none, jumps := 9 }
theorem s_qhas_ok (N : Nat) (x0 : Int) (x1 : Int) : bodyK (cx_qhas N) Tryd.f59 [.v (.int .i64 x0) .no, .v (.int .i64 x1) .no] [] r_qhas = s_qhas N x0 x1 := by
  kernel_rfl
theorem go_qhas : Goes Tryd.prog 59 := goes_of Tryd.func59 (by kernel_rfl) (c := bodyOf Tryd.f59) (by kernel_rfl)
theorem eo_qhas (s : Int → Int → Option (Bool)) (hs : ∀ (x0 : Int) (x1 : Int) (r0 : Bool), s x0 x1 = some r0 → PureRet Tryd.prog T 59 [.v (.int .i64 x0) .no, .v (.int .i64 x1) .no] [.v (.bool r0) .no]) : EntOK Tryd.prog T ⟨59, e_qhas s⟩ := by
  refine ⟨go_qhas, fun R ds K r h => ?_, fun R ds K => ?_⟩
  · simp only [e_qhas] at h
    split at h
    · obtain ⟨r0, h1, h2⟩ := bnd1_some h
      exact ⟨_, h2, hs _ _ _ h1⟩
    · cases h
  · simp only [e_qhas]
    split
    · rw [bnd1_b]; rfl
    · rfl
theorem co_qhas (N : Nat) : CxOK Tryd.prog (cx_qhas N) :=
  cxOK_of2 (es := []) (me := []) (ms := []) T_ok trivial trivial trivial rfl (fun _ _ _ _ => rfl) (fun _ _ _ _ _ _ => rfl) rfl
theorem lo_qhas (N : Nat) : LoopsOK (cx_qhas N) Tryd.f59.ntmps (bodyOf Tryd.f59) :=
  loopsOK_of (k := 0) (by kernel_rfl) trivial
theorem p_qhas (N : Nat) (x0 : Int) (x1 : Int) (r0 : Bool) (h : s_qhas N x0 x1 = some r0) : PureRet Tryd.prog T 59 [.v (.int .i64 x0) .no, .v (.int .i64 x1) .no] [.v (.bool r0) .no] :=
  pure_of (cx := cx_qhas N) (by kernel_rfl) (co_qhas N) Tryd.func59 (by kernel_rfl) (by kernel_rfl) (lo_qhas N) rfl rfl rfl (rf := r_qhas) ((s_qhas_ok N x0 x1).trans h) (fun rs' m h => by
    unfold r_qhas at h
    split at h
    · cases h; exact ⟨rfl, rfl⟩
    · cases h)
noncomputable def e_qvalid {R : Type} (s : Int → Int → List V → Option (Bool)) (ds : List D) (K : List D → Option R) : Option R :=
  match ds with
  | [.agg [.v (.int .i64 x0) .no, .v (.int .i64 x1) .no, .v (.sl 24 x2) .no]] => bnd1 (s x0 x1 x2) fun r0 => K [.v (.bool r0) .no]
  | _ => none
noncomputable def r_qvalid (rs : List D) (_ : Mem) : Option (Bool) :=
  match rs with
  | [.v (.bool r0) _] => some (r0)
  | _ => none
noncomputable def F_qvalid_18 {R : Type} (N : Nat) (f : Int → Int → List V → Option (Bool)) (n1 : Int) (n2 : Int) (vs3 : List V) (Lq : Int → Option R) (K0 : Bool → Option R) (K1 : Option R) (n0 : Int) : Option R :=
  br (decide (n0 < (↑vs3.length : Int)))
  (br (decide (0 ≤ n0) && decide (n0 < (↑vs3.length : Int)))
    (at? vs3 n0.toNat fun x0 =>
      x0.unAgg fun l1 =>
        unCons l1 fun x2 l3 =>
          V.unInt IntKind.i64 x2 fun n4 =>
            unCons l3 fun x5 l6 => V.unInt IntKind.i64 x5 fun n7 => unCons l6 fun x8 l9 => V.unSl 24 x8 fun l10 => unNil l9 (bnd1 (f n4 n7 l10) fun b11 => br (!b11) (K0 false) (Lq (IntKind.i64.wrap (n0 + 1)))))
    none)
  K1
noncomputable def S_qvalid_18 {R : Type} (N : Nat) (f : Int → Int → List V → Option (Bool)) (n1 : Int) (n2 : Int) (vs3 : List V) : Nat → Int → (Bool → Option R) → (Option R) → Option R
  | 0, _, _, _ => none
  | t + 1, n0, K0, K1 => F_qvalid_18 N f n1 n2 vs3 (fun n0 => S_qvalid_18 N f n1 n2 vs3 t n0 K0 K1) K0 K1 n0
noncomputable def l_qvalid_18 {R : Type} (N : Nat) (f : Int → Int → List V → Option (Bool)) (ds : List D) (m : Mem) (K : Ex → List D → Mem → Option R) : Option R :=
  match ds, m with
  | [(.ptr 0 1 0), (.v (.int .i64 n0) .no)], [[(1, ⟨24, [(.v (.int .i64 n1) .no), (.v (.int .i64 n2) .no), (.v (.sl 24 vs3) .no)]⟩)]] => S_qvalid_18 N f n1 n2 vs3 N n0 (fun a0 => K .ret [(.ptr 0 1 0), (.v (.bool a0) .no)] [[(1, ⟨24, [(.v (.int .i64 n1) .no), (.v (.int .i64 n2) .no), (.v (.sl 24 vs3) .no)]⟩)]]) (K (.exit 1) [(.ptr 0 1 0), .any] [[(1, ⟨24, [(.v (.int .i64 n1) .no), (.v (.int .i64 n2) .no), (.v (.sl 24 vs3) .no)]⟩)]])
  | _, _ => none
noncomputable def B_qvalid (N : Nat) (f : Int → Int → List V → Option (Bool)) (x0 : Int) (x1 : Int) (x2 : List V) : Option (Bool) :=
  br (decide (x0 = 0)) (br (decide (x1 = 0)) (some (decide ((↑x2.length : Int) = 0))) (some false))
  (br (decide (x0 = 1)) (br (decide (x1 = 0)) (some (decide ((↑x2.length : Int) = 0))) (some false))
    (br (decide (x0 = 2)) (br (decide (1 ≤ x1)) (br (decide (x1 ≤ 8)) (some (decide ((↑x2.length : Int) = 0))) (some false)) (some false))
      (br (decide (x0 = 3)) (br (decide (1 ≤ x1)) (br (decide (x1 ≤ 8)) (some (decide ((↑x2.length : Int) = 0))) (some false)) (some false))
        (br (decide (x0 = 4)) (br (decide (1 ≤ x1)) (br (decide (x1 ≤ 5)) (some (decide ((↑x2.length : Int) = 0))) (some false)) (some false))
          (br (decide (x0 = 5)) (br (decide (1 ≤ x1)) (bnd1 (s_qhas N 51 x1) fun b0 => br b0 (some (decide ((↑x2.length : Int) = 0))) (some false)) (some false))
            (br (decide (x0 = 6)) (br (!decide (x1 = 0)) (some false) (br (decide ((↑x2.length : Int) = 0)) (some false) (S_qvalid_18 N f x0 x1 x2 N 0 (fun b1 => some b1) (some true))))
              (br (decide (x0 = 7)) (br (!decide (x1 = 0)) (some false) (br (decide ((↑x2.length : Int) = 0)) (some false) (S_qvalid_18 N f x0 x1 x2 N 0 (fun b2 => some b2) (some true)))) (some false))))))))
noncomputable def s_qvalid (N : Nat) : Nat → Int → Int → List V → Option (Bool)
  | 0, _, _, _ => none
  | n + 1, x0, x1, x2 => B_qvalid N (s_qvalid N n) x0 x1 x2
noncomputable def cx_qvalid (N : Nat) (f : Int → Int → List V → Option (Bool)) : Cx := { T := T, isPure := tabP [⟨41, e_qvalid f⟩, ⟨59, e_qhas (s_qhas N)⟩], pureK := fun g ds K => tabK [⟨41, e_qvalid f⟩, ⟨59, e_qhas (s_qhas N)⟩] g ds K, memK := fun g dst ds m K => tabMK [] g dst ds m K, meth := tabM [], keep := fun r => match r with | 18 => [1, 3] | _ => [], keepX := fun r => match r with | 18 => [1, 2] | _ => [], loopT := fun r ds m K => match r with | 18 => l_qvalid_18 N f ds m K | _ => none, jumps := 9 }
theorem F_qvalid_18_ok {R : Type} (N : Nat) (f : Int → Int → List V → Option (Bool)) (n1 : Int) (n2 : Int) (vs3 : List V) (n0 : Int) (L : List D → Mem → Option R) (K : Ex → List D → Mem → Option R) :
    roundK (fun st K => codeK (cx_qvalid N f) (loopN Tryd.f41 0) st K) 108 [1, 3] [1, 2] L [(.ptr 0 1 0), (.v (.int .i64 n0) .no)] [[(1, ⟨24, [(.v (.int .i64 n1) .no), (.v (.int .i64 n2) .no), (.v (.sl 24 vs3) .no)]⟩)]] K = F_qvalid_18 N f n1 n2 vs3 (fun n0 => L [(.ptr 0 1 0), (.v (.int .i64 n0) .no)] [[(1, ⟨24, [(.v (.int .i64 n1) .no), (.v (.int .i64 n2) .no), (.v (.sl 24 vs3) .no)]⟩)]]) (fun a0 => K .ret [(.ptr 0 1 0), (.v (.bool a0) .no)] [[(1, ⟨24, [(.v (.int .i64 n1) .no), (.v (.int .i64 n2) .no), (.v (.sl 24 vs3) .no)]⟩)]]) (K (.exit 1) [(.ptr 0 1 0), .any] [[(1, ⟨24, [(.v (.int .i64 n1) .no), (.v (.int .i64 n2) .no), (.v (.sl 24 vs3) .no)]⟩)]]) n0 := by
  kernel_rfl
theorem S_qvalid_18_ok {R : Type} (N : Nat) (f : Int → Int → List V → Option (Bool)) (n1 : Int) (n2 : Int) (vs3 : List V) (K : Ex → List D → Mem → Option R) : ∀ (t : Nat) (n0 : Int),
    loopK (fun st K => codeK (cx_qvalid N f) (loopN Tryd.f41 0) st K) 108 [1, 3] [1, 2] t [(.ptr 0 1 0), (.v (.int .i64 n0) .no)] [[(1, ⟨24, [(.v (.int .i64 n1) .no), (.v (.int .i64 n2) .no), (.v (.sl 24 vs3) .no)]⟩)]] K = S_qvalid_18 N f n1 n2 vs3 t n0 (fun a0 => K .ret [(.ptr 0 1 0), (.v (.bool a0) .no)] [[(1, ⟨24, [(.v (.int .i64 n1) .no), (.v (.int .i64 n2) .no), (.v (.sl 24 vs3) .no)]⟩)]]) (K (.exit 1) [(.ptr 0 1 0), .any] [[(1, ⟨24, [(.v (.int .i64 n1) .no), (.v (.int .i64 n2) .no), (.v (.sl 24 vs3) .no)]⟩)]])
  | 0, n0 => rfl
  | t + 1, n0 => (F_qvalid_18_ok N f n1 n2 vs3 n0 _ K).trans (congrArg (fun L => F_qvalid_18 N f n1 n2 vs3 L (fun a0 => K .ret [(.ptr 0 1 0), (.v (.bool a0) .no)] [[(1, ⟨24, [(.v (.int .i64 n1) .no), (.v (.int .i64 n2) .no), (.v (.sl 24 vs3) .no)]⟩)]]) (K (.exit 1) [(.ptr 0 1 0), .any] [[(1, ⟨24, [(.v (.int .i64 n1) .no), (.v (.int .i64 n2) .no), (.v (.sl 24 vs3) .no)]⟩)]]) n0) (funext fun n0 => S_qvalid_18_ok N f n1 n2 vs3 K t n0))
theorem B_qvalid_ok (N : Nat) (f : Int → Int → List V → Option (Bool)) (x0 : Int) (x1 : Int) (x2 : List V) : bodyK (cx_qvalid N f) Tryd.f41 [.agg [.v (.int .i64 x0) .no, .v (.int .i64 x1) .no, .v (.sl 24 x2) .no]] [] r_qvalid = B_qvalid N f x0 x1 x2 := by
  kernel_rfl
theorem go_qvalid : Goes Tryd.prog 41 := goes_of Tryd.func41 (by kernel_rfl) (c := bodyOf Tryd.f41) (by kernel_rfl)
theorem eo_qvalid (s : Int → Int → List V → Option (Bool)) (hs : ∀ (x0 : Int) (x1 : Int) (x2 : List V) (r0 : Bool), s x0 x1 x2 = some r0 → PureRet Tryd.prog T 41 [.agg [.v (.int .i64 x0) .no, .v (.int .i64 x1) .no, .v (.sl 24 x2) .no]] [.v (.bool r0) .no]) : EntOK Tryd.prog T ⟨41, e_qvalid s⟩ := by
  refine ⟨go_qvalid, fun R ds K r h => ?_, fun R ds K => ?_⟩
  · simp only [e_qvalid] at h
    split at h
    · obtain ⟨r0, h1, h2⟩ := bnd1_some h
      exact ⟨_, h2, hs _ _ _ _ h1⟩
    · cases h
  · simp only [e_qvalid]
    split
    · rw [bnd1_b]; rfl
    · rfl
theorem co_qvalid (N : Nat) (f : Int → Int → List V → Option (Bool)) (hf : ∀ (x0 : Int) (x1 : Int) (x2 : List V) (r0 : Bool), f x0 x1 x2 = some r0 → PureRet Tryd.prog T 41 [.agg [.v (.int .i64 x0) .no, .v (.int .i64 x1) .no, .v (.sl 24 x2) .no]] [.v (.bool r0) .no]) : CxOK Tryd.prog (cx_qvalid N f) :=
  cxOK_of2 (es := [⟨41, e_qvalid f⟩, ⟨59, e_qhas (s_qhas N)⟩]) (me := []) (ms := []) T_ok ⟨eo_qvalid f hf, eo_qhas _ (p_qhas N), trivial⟩ trivial trivial rfl (fun _ _ _ _ => rfl) (fun _ _ _ _ _ _ => rfl) rfl
theorem lk_qvalid_18 (N : Nat) (f : Int → Int → List V → Option (Bool)) : LoopOK (cx_qvalid N f) 108 (loopN Tryd.f41 0) := by
  refine loopOK_of (rid := 18) (by kernel_rfl) rfl rfl fun R ds m K r h => ?_
  have h : l_qvalid_18 N f ds m K = some r := h
  unfold l_qvalid_18 at h
  split at h
  · exact ⟨N, Eq.trans (S_qvalid_18_ok ..) h⟩
  · cases h
theorem lo_qvalid (N : Nat) (f : Int → Int → List V → Option (Bool)) : LoopsOK (cx_qvalid N f) Tryd.f41.ntmps (bodyOf Tryd.f41) :=
  loopsOK_of (k := 1) (by kernel_rfl) ⟨trivial, lk_qvalid_18 N f⟩
theorem p_qvalid (N : Nat) : ∀ (M : Nat) (x0 : Int) (x1 : Int) (x2 : List V) (r0 : Bool), s_qvalid N M x0 x1 x2 = some r0 → PureRet Tryd.prog T 41 [.agg [.v (.int .i64 x0) .no, .v (.int .i64 x1) .no, .v (.sl 24 x2) .no]] [.v (.bool r0) .no]
  | 0, _, _, _, _, h => by cases h
  | M + 1, x0, x1, x2, r0, h => pure_of (cx := cx_qvalid N (s_qvalid N M)) (by kernel_rfl) (co_qvalid N (s_qvalid N M) (p_qvalid N M)) Tryd.func41 (by kernel_rfl) (by kernel_rfl) (lo_qvalid N (s_qvalid N M)) rfl rfl rfl (rf := r_qvalid) ((B_qvalid_ok N (s_qvalid N M) x0 x1 x2).trans h) (fun rs' m h => by
    unfold r_qvalid at h
    split at h
    · cases h; exact ⟨rfl, rfl⟩
    · cases h)
noncomputable def e_qnodes {R : Type} (s : Int → Int → List V → Option (Int)) (ds : List D) (K : List D → Option R) : Option R :=
  match ds with
  | [.agg [.v (.int .i64 x0) .no, .v (.int .i64 x1) .no, .v (.sl 24 x2) .no]] => bnd1 (s x0 x1 x2) fun r0 => K [.v (.int .i64 r0) .no]
  | _ => none
noncomputable def r_qnodes (rs : List D) (_ : Mem) : Option (Int) :=
  match rs with
  | [.v (.int .i64 r0) _] => some (r0)
  | _ => none
noncomputable def F_qnodes_3 {R : Type} (N : Nat) (f : Int → Int → List V → Option (Int)) (n2 : Int) (n3 : Int) (vs4 : List V) (Lq : Int → Int → Option R) (K0 : Int → Option R) (n0 : Int) (n1 : Int) : Option R :=
  br (decide (n1 < (↑vs4.length : Int)))
  (br (decide (0 ≤ n1) && decide (n1 < (↑vs4.length : Int)))
    (at? vs4 n1.toNat fun x0 =>
      x0.unAgg fun l1 =>
        unCons l1 fun x2 l3 =>
          V.unInt IntKind.i64 x2 fun n4 =>
            unCons l3 fun x5 l6 => V.unInt IntKind.i64 x5 fun n7 => unCons l6 fun x8 l9 => V.unSl 24 x8 fun l10 => unNil l9 (bnd1 (f n4 n7 l10) fun n11 => Lq (IntKind.i64.wrap (n0 + n11)) (IntKind.i64.wrap (n1 + 1))))
    none)
  (K0 n0)
noncomputable def S_qnodes_3 {R : Type} (N : Nat) (f : Int → Int → List V → Option (Int)) (n2 : Int) (n3 : Int) (vs4 : List V) : Nat → Int → Int → (Int → Option R) → Option R
  | 0, _, _, _ => none
  | t + 1, n0, n1, K0 => F_qnodes_3 N f n2 n3 vs4 (fun n0 n1 => S_qnodes_3 N f n2 n3 vs4 t n0 n1 K0) K0 n0 n1
noncomputable def l_qnodes_3 {R : Type} (N : Nat) (f : Int → Int → List V → Option (Int)) (ds : List D) (m : Mem) (K : Ex → List D → Mem → Option R) : Option R :=
  match ds, m with
  | [(.ptr 0 1 0), (.v (.int .i64 n0) .no), (.v (.int .i64 n1) .no)], [[(1, ⟨24, [(.v (.int .i64 n2) .no), (.v (.int .i64 n3) .no), (.v (.sl 24 vs4) .no)]⟩)]] => S_qnodes_3 N f n2 n3 vs4 N n0 n1 (fun a0 => K (.exit 0) [(.ptr 0 1 0), (.v (.int .i64 a0) .no)] [[(1, ⟨24, [(.v (.int .i64 n2) .no), (.v (.int .i64 n3) .no), (.v (.sl 24 vs4) .no)]⟩)]])
  | _, _ => none
noncomputable def B_qnodes (N : Nat) (f : Int → Int → List V → Option (Int)) (x0 : Int) (x1 : Int) (x2 : List V) : Option (Int) :=
  S_qnodes_3 N f x0 x1 x2 N 1 0 fun n0 => some n0
noncomputable def s_qnodes (N : Nat) : Nat → Int → Int → List V → Option (Int)
  | 0, _, _, _ => none
  | n + 1, x0, x1, x2 => B_qnodes N (s_qnodes N n) x0 x1 x2
noncomputable def cx_qnodes (N : Nat) (f : Int → Int → List V → Option (Int)) : Cx := { T := T, isPure := tabP [⟨42, e_qnodes f⟩], pureK := fun g ds K => tabK [⟨42, e_qnodes f⟩] g ds K, memK := fun g dst ds m K => tabMK [] g dst ds m K, meth := tabM [], keep := fun r => match r with | 3 => [1, 3, 4] | _ => [], keepX := fun r => match r with | 3 => [1, 3] | _ => [], loopT := fun r ds m K => match r with | 3 => l_qnodes_3 N f ds m K | _ => none, jumps := 9 }
theorem F_qnodes_3_ok {R : Type} (N : Nat) (f : Int → Int → List V → Option (Int)) (n2 : Int) (n3 : Int) (vs4 : List V) (n0 : Int) (n1 : Int) (L : List D → Mem → Option R) (K : Ex → List D → Mem → Option R) :
    roundK (fun st K => codeK (cx_qnodes N f) (loopN Tryd.f42 0) st K) 21 [1, 3, 4] [1, 3] L [(.ptr 0 1 0), (.v (.int .i64 n0) .no), (.v (.int .i64 n1) .no)] [[(1, ⟨24, [(.v (.int .i64 n2) .no), (.v (.int .i64 n3) .no), (.v (.sl 24 vs4) .no)]⟩)]] K = F_qnodes_3 N f n2 n3 vs4 (fun n0 n1 => L [(.ptr 0 1 0), (.v (.int .i64 n0) .no), (.v (.int .i64 n1) .no)] [[(1, ⟨24, [(.v (.int .i64 n2) .no), (.v (.int .i64 n3) .no), (.v (.sl 24 vs4) .no)]⟩)]]) (fun a0 => K (.exit 0) [(.ptr 0 1 0), (.v (.int .i64 a0) .no)] [[(1, ⟨24, [(.v (.int .i64 n2) .no), (.v (.int .i64 n3) .no), (.v (.sl 24 vs4) .no)]⟩)]]) n0 n1 := by
  kernel_rfl
theorem S_qnodes_3_ok {R : Type} (N : Nat) (f : Int → Int → List V → Option (Int)) (n2 : Int) (n3 : Int) (vs4 : List V) (K : Ex → List D → Mem → Option R) : ∀ (t : Nat) (n0 : Int) (n1 : Int),
    loopK (fun st K => codeK (cx_qnodes N f) (loopN Tryd.f42 0) st K) 21 [1, 3, 4] [1, 3] t [(.ptr 0 1 0), (.v (.int .i64 n0) .no), (.v (.int .i64 n1) .no)] [[(1, ⟨24, [(.v (.int .i64 n2) .no), (.v (.int .i64 n3) .no), (.v (.sl 24 vs4) .no)]⟩)]] K = S_qnodes_3 N f n2 n3 vs4 t n0 n1 (fun a0 => K (.exit 0) [(.ptr 0 1 0), (.v (.int .i64 a0) .no)] [[(1, ⟨24, [(.v (.int .i64 n2) .no), (.v (.int .i64 n3) .no), (.v (.sl 24 vs4) .no)]⟩)]])
  | 0, n0, n1 => rfl
  | t + 1, n0, n1 => (F_qnodes_3_ok N f n2 n3 vs4 n0 n1 _ K).trans (congrArg (fun L => F_qnodes_3 N f n2 n3 vs4 L (fun a0 => K (.exit 0) [(.ptr 0 1 0), (.v (.int .i64 a0) .no)] [[(1, ⟨24, [(.v (.int .i64 n2) .no), (.v (.int .i64 n3) .no), (.v (.sl 24 vs4) .no)]⟩)]]) n0 n1) (funext fun n0 => funext fun n1 => S_qnodes_3_ok N f n2 n3 vs4 K t n0 n1))
theorem B_qnodes_ok (N : Nat) (f : Int → Int → List V → Option (Int)) (x0 : Int) (x1 : Int) (x2 : List V) : bodyK (cx_qnodes N f) Tryd.f42 [.agg [.v (.int .i64 x0) .no, .v (.int .i64 x1) .no, .v (.sl 24 x2) .no]] [] r_qnodes = B_qnodes N f x0 x1 x2 := by
  kernel_rfl
theorem go_qnodes : Goes Tryd.prog 42 := goes_of Tryd.func42 (by kernel_rfl) (c := bodyOf Tryd.f42) (by kernel_rfl)
theorem eo_qnodes (s : Int → Int → List V → Option (Int)) (hs : ∀ (x0 : Int) (x1 : Int) (x2 : List V) (r0 : Int), s x0 x1 x2 = some r0 → PureRet Tryd.prog T 42 [.agg [.v (.int .i64 x0) .no, .v (.int .i64 x1) .no, .v (.sl 24 x2) .no]] [.v (.int .i64 r0) .no]) : EntOK Tryd.prog T ⟨42, e_qnodes s⟩ := by
  refine ⟨go_qnodes, fun R ds K r h => ?_, fun R ds K => ?_⟩
  · simp only [e_qnodes] at h
    split at h
    · obtain ⟨r0, h1, h2⟩ := bnd1_some h
      exact ⟨_, h2, hs _ _ _ _ h1⟩
    · cases h
  · simp only [e_qnodes]
    split
    · rw [bnd1_b]; rfl
    · rfl
theorem co_qnodes (N : Nat) (f : Int → Int → List V → Option (Int)) (hf : ∀ (x0 : Int) (x1 : Int) (x2 : List V) (r0 : Int), f x0 x1 x2 = some r0 → PureRet Tryd.prog T 42 [.agg [.v (.int .i64 x0) .no, .v (.int .i64 x1) .no, .v (.sl 24 x2) .no]] [.v (.int .i64 r0) .no]) : CxOK Tryd.prog (cx_qnodes N f) :=
  cxOK_of2 (es := [⟨42, e_qnodes f⟩]) (me := []) (ms := []) T_ok ⟨eo_qnodes f hf, trivial⟩ trivial trivial rfl (fun _ _ _ _ => rfl) (fun _ _ _ _ _ _ => rfl) rfl
theorem lk_qnodes_3 (N : Nat) (f : Int → Int → List V → Option (Int)) : LoopOK (cx_qnodes N f) 21 (loopN Tryd.f42 0) := by
  refine loopOK_of (rid := 3) (by kernel_rfl) rfl rfl fun R ds m K r h => ?_
  have h : l_qnodes_3 N f ds m K = some r := h
  unfold l_qnodes_3 at h
  split at h
  · exact ⟨N, Eq.trans (S_qnodes_3_ok ..) h⟩
  · cases h
theorem lo_qnodes (N : Nat) (f : Int → Int → List V → Option (Int)) : LoopsOK (cx_qnodes N f) Tryd.f42.ntmps (bodyOf Tryd.f42) :=
  loopsOK_of (k := 1) (by kernel_rfl) ⟨trivial, lk_qnodes_3 N f⟩
theorem p_qnodes (N : Nat) : ∀ (M : Nat) (x0 : Int) (x1 : Int) (x2 : List V) (r0 : Int), s_qnodes N M x0 x1 x2 = some r0 → PureRet Tryd.prog T 42 [.agg [.v (.int .i64 x0) .no, .v (.int .i64 x1) .no, .v (.sl 24 x2) .no]] [.v (.int .i64 r0) .no]
  | 0, _, _, _, _, h => by cases h
  | M + 1, x0, x1, x2, r0, h => pure_of (cx := cx_qnodes N (s_qnodes N M)) (by kernel_rfl) (co_qnodes N (s_qnodes N M) (p_qnodes N M)) Tryd.func42 (by kernel_rfl) (by kernel_rfl) (lo_qnodes N (s_qnodes N M)) rfl rfl rfl (rf := r_qnodes) ((B_qnodes_ok N (s_qnodes N M) x0 x1 x2).trans h) (fun rs' m h => by
    unfold r_qnodes at h
    split at h
    · cases h; exact ⟨rfl, rfl⟩
    · cases h)
noncomputable def e_qdepth {R : Type} (s : Int → Int → List V → Option (Int)) (ds : List D) (K : List D → Option R) : Option R :=
  match ds with
  | [.agg [.v (.int .i64 x0) .no, .v (.int .i64 x1) .no, .v (.sl 24 x2) .no]] => bnd1 (s x0 x1 x2) fun r0 => K [.v (.int .i64 r0) .no]
  | _ => none
noncomputable def r_qdepth (rs : List D) (_ : Mem) : Option (Int) :=
  match rs with
  | [.v (.int .i64 r0) _] => some (r0)
  | _ => none
noncomputable def F_qdepth_3 {R : Type} (N : Nat) (f : Int → Int → List V → Option (Int)) (n2 : Int) (n3 : Int) (vs4 : List V) (Lq : Int → Int → Option R) (K0 : Int → Option R) (n0 : Int) (n1 : Int) : Option R :=
  br (decide (n1 < (↑vs4.length : Int)))
  (br (decide (0 ≤ n1) && decide (n1 < (↑vs4.length : Int)))
    (at? vs4 n1.toNat fun x0 =>
      x0.unAgg fun l1 =>
        unCons l1 fun x2 l3 =>
          V.unInt IntKind.i64 x2 fun n4 =>
            unCons l3 fun x5 l6 =>
              V.unInt IntKind.i64 x5 fun n7 => unCons l6 fun x8 l9 => V.unSl 24 x8 fun l10 => unNil l9 (bnd1 (f n4 n7 l10) fun n11 => br (decide (n0 < n11)) (Lq n11 (IntKind.i64.wrap (n1 + 1))) (Lq n0 (IntKind.i64.wrap (n1 + 1)))))
    none)
  (K0 n0)
noncomputable def S_qdepth_3 {R : Type} (N : Nat) (f : Int → Int → List V → Option (Int)) (n2 : Int) (n3 : Int) (vs4 : List V) : Nat → Int → Int → (Int → Option R) → Option R
  | 0, _, _, _ => none
  | t + 1, n0, n1, K0 => F_qdepth_3 N f n2 n3 vs4 (fun n0 n1 => S_qdepth_3 N f n2 n3 vs4 t n0 n1 K0) K0 n0 n1
noncomputable def l_qdepth_3 {R : Type} (N : Nat) (f : Int → Int → List V → Option (Int)) (ds : List D) (m : Mem) (K : Ex → List D → Mem → Option R) : Option R :=
  match ds, m with
  | [(.ptr 0 1 0), (.v (.int .i64 n0) .no), (.v (.int .i64 n1) .no)], [[(1, ⟨24, [(.v (.int .i64 n2) .no), (.v (.int .i64 n3) .no), (.v (.sl 24 vs4) .no)]⟩)]] => S_qdepth_3 N f n2 n3 vs4 N n0 n1 (fun a0 => K (.exit 0) [(.ptr 0 1 0), (.v (.int .i64 a0) .no)] [[(1, ⟨24, [(.v (.int .i64 n2) .no), (.v (.int .i64 n3) .no), (.v (.sl 24 vs4) .no)]⟩)]])
  | _, _ => none
noncomputable def B_qdepth (N : Nat) (f : Int → Int → List V → Option (Int)) (x0 : Int) (x1 : Int) (x2 : List V) : Option (Int) :=
  S_qdepth_3 N f x0 x1 x2 N 0 0 fun n0 => some (IntKind.i64.wrap (n0 + 1))
noncomputable def s_qdepth (N : Nat) : Nat → Int → Int → List V → Option (Int)
  | 0, _, _, _ => none
  | n + 1, x0, x1, x2 => B_qdepth N (s_qdepth N n) x0 x1 x2
noncomputable def cx_qdepth (N : Nat) (f : Int → Int → List V → Option (Int)) : Cx := { T := T, isPure := tabP [⟨43, e_qdepth f⟩], pureK := fun g ds K => tabK [⟨43, e_qdepth f⟩] g ds K, memK := fun g dst ds m K => tabMK [] g dst ds m K, meth := tabM [], keep := fun r => match r with | 3 => [1, 3, 4] | _ => [], keepX := fun r => match r with | 3 => [1, 3] | _ => [], loopT := fun r ds m K => match r with | 3 => l_qdepth_3 N f ds m K | _ => none, jumps := 9 }
theorem F_qdepth_3_ok {R : Type} (N : Nat) (f : Int → Int → List V → Option (Int)) (n2 : Int) (n3 : Int) (vs4 : List V) (n0 : Int) (n1 : Int) (L : List D → Mem → Option R) (K : Ex → List D → Mem → Option R) :
    roundK (fun st K => codeK (cx_qdepth N f) (loopN Tryd.f43 0) st K) 25 [1, 3, 4] [1, 3] L [(.ptr 0 1 0), (.v (.int .i64 n0) .no), (.v (.int .i64 n1) .no)] [[(1, ⟨24, [(.v (.int .i64 n2) .no), (.v (.int .i64 n3) .no), (.v (.sl 24 vs4) .no)]⟩)]] K = F_qdepth_3 N f n2 n3 vs4 (fun n0 n1 => L [(.ptr 0 1 0), (.v (.int .i64 n0) .no), (.v (.int .i64 n1) .no)] [[(1, ⟨24, [(.v (.int .i64 n2) .no), (.v (.int .i64 n3) .no), (.v (.sl 24 vs4) .no)]⟩)]]) (fun a0 => K (.exit 0) [(.ptr 0 1 0), (.v (.int .i64 a0) .no)] [[(1, ⟨24, [(.v (.int .i64 n2) .no), (.v (.int .i64 n3) .no), (.v (.sl 24 vs4) .no)]⟩)]]) n0 n1 := by
  kernel_rfl
theorem S_qdepth_3_ok {R : Type} (N : Nat) (f : Int → Int → List V → Option (Int)) (n2 : Int) (n3 : Int) (vs4 : List V) (K : Ex → List D → Mem → Option R) : ∀ (t : Nat) (n0 : Int) (n1 : Int),
    loopK (fun st K => codeK (cx_qdepth N f) (loopN Tryd.f43 0) st K) 25 [1, 3, 4] [1, 3] t [(.ptr 0 1 0), (.v (.int .i64 n0) .no), (.v (.int .i64 n1) .no)] [[(1, ⟨24, [(.v (.int .i64 n2) .no), (.v (.int .i64 n3) .no), (.v (.sl 24 vs4) .no)]⟩)]] K = S_qdepth_3 N f n2 n3 vs4 t n0 n1 (fun a0 => K (.exit 0) [(.ptr 0 1 0), (.v (.int .i64 a0) .no)] [[(1, ⟨24, [(.v (.int .i64 n2) .no), (.v (.int .i64 n3) .no), (.v (.sl 24 vs4) .no)]⟩)]])
  | 0, n0, n1 => rfl
  | t + 1, n0, n1 => (F_qdepth_3_ok N f n2 n3 vs4 n0 n1 _ K).trans (congrArg (fun L => F_qdepth_3 N f n2 n3 vs4 L (fun a0 => K (.exit 0) [(.ptr 0 1 0), (.v (.int .i64 a0) .no)] [[(1, ⟨24, [(.v (.int .i64 n2) .no), (.v (.int .i64 n3) .no), (.v (.sl 24 vs4) .no)]⟩)]]) n0 n1) (funext fun n0 => funext fun n1 => S_qdepth_3_ok N f n2 n3 vs4 K t n0 n1))
theorem B_qdepth_ok (N : Nat) (f : Int → Int → List V → Option (Int)) (x0 : Int) (x1 : Int) (x2 : List V) : bodyK (cx_qdepth N f) Tryd.f43 [.agg [.v (.int .i64 x0) .no, .v (.int .i64 x1) .no, .v (.sl 24 x2) .no]] [] r_qdepth = B_qdepth N f x0 x1 x2 := by
  kernel_rfl
theorem go_qdepth : Goes Tryd.prog 43 := goes_of Tryd.func43 (by kernel_rfl) (c := bodyOf Tryd.f43) (by kernel_rfl)
theorem eo_qdepth (s : Int → Int → List V → Option (Int)) (hs : ∀ (x0 : Int) (x1 : Int) (x2 : List V) (r0 : Int), s x0 x1 x2 = some r0 → PureRet Tryd.prog T 43 [.agg [.v (.int .i64 x0) .no, .v (.int .i64 x1) .no, .v (.sl 24 x2) .no]] [.v (.int .i64 r0) .no]) : EntOK Tryd.prog T ⟨43, e_qdepth s⟩ := by
  refine ⟨go_qdepth, fun R ds K r h => ?_, fun R ds K => ?_⟩
  · simp only [e_qdepth] at h
    split at h
    · obtain ⟨r0, h1, h2⟩ := bnd1_some h
      exact ⟨_, h2, hs _ _ _ _ h1⟩
    · cases h
  · simp only [e_qdepth]
    split
    · rw [bnd1_b]; rfl
    · rfl
theorem co_qdepth (N : Nat) (f : Int → Int → List V → Option (Int)) (hf : ∀ (x0 : Int) (x1 : Int) (x2 : List V) (r0 : Int), f x0 x1 x2 = some r0 → PureRet Tryd.prog T 43 [.agg [.v (.int .i64 x0) .no, .v (.int .i64 x1) .no, .v (.sl 24 x2) .no]] [.v (.int .i64 r0) .no]) : CxOK Tryd.prog (cx_qdepth N f) :=
  cxOK_of2 (es := [⟨43, e_qdepth f⟩]) (me := []) (ms := []) T_ok ⟨eo_qdepth f hf, trivial⟩ trivial trivial rfl (fun _ _ _ _ => rfl) (fun _ _ _ _ _ _ => rfl) rfl
theorem lk_qdepth_3 (N : Nat) (f : Int → Int → List V → Option (Int)) : LoopOK (cx_qdepth N f) 25 (loopN Tryd.f43 0) := by
  refine loopOK_of (rid := 3) (by kernel_rfl) rfl rfl fun R ds m K r h => ?_
  have h : l_qdepth_3 N f ds m K = some r := h
  unfold l_qdepth_3 at h
  split at h
  · exact ⟨N, Eq.trans (S_qdepth_3_ok ..) h⟩
  · cases h
theorem lo_qdepth (N : Nat) (f : Int → Int → List V → Option (Int)) : LoopsOK (cx_qdepth N f) Tryd.f43.ntmps (bodyOf Tryd.f43) :=
  loopsOK_of (k := 1) (by kernel_rfl) ⟨trivial, lk_qdepth_3 N f⟩
theorem p_qdepth (N : Nat) : ∀ (M : Nat) (x0 : Int) (x1 : Int) (x2 : List V) (r0 : Int), s_qdepth N M x0 x1 x2 = some r0 → PureRet Tryd.prog T 43 [.agg [.v (.int .i64 x0) .no, .v (.int .i64 x1) .no, .v (.sl 24 x2) .no]] [.v (.int .i64 r0) .no]
  | 0, _, _, _, _, h => by cases h
  | M + 1, x0, x1, x2, r0, h => pure_of (cx := cx_qdepth N (s_qdepth N M)) (by kernel_rfl) (co_qdepth N (s_qdepth N M) (p_qdepth N M)) Tryd.func43 (by kernel_rfl) (by kernel_rfl) (lo_qdepth N (s_qdepth N M)) rfl rfl rfl (rf := r_qdepth) ((B_qdepth_ok N (s_qdepth N M) x0 x1 x2).trans h) (fun rs' m h => by
    unfold r_qdepth at h
    split at h
    · cases h; exact ⟨rfl, rfl⟩
    · cases h)
noncomputable def e_qCheck {R : Type} (s : Int → Int → List V → Option (Int)) (ds : List D) (K : List D → Option R) : Option R :=
  match ds with
  | [.agg [.v (.int .i64 x0) .no, .v (.int .i64 x1) .no, .v (.sl 24 x2) .no]] => bnd1 (s x0 x1 x2) fun r0 => K [.v (.int .i64 r0) .no]
  | _ => none
noncomputable def r_qCheck (rs : List D) (_ : Mem) : Option (Int) :=
  match rs with
  | [.v (.int .i64 r0) _] => some (r0)
  | _ => none
noncomputable def s_qCheck (N : Nat) (x0 : Int) (x1 : Int) (x2 : List V) : Option (Int) :=
  bnd1 (s_qvalid N N x0 x1 x2) fun b0 => br (!b0) (some 1) (bnd1 (s_qnodes N N x0 x1 x2) fun n1 => br (decide (16 < n1)) (some 3) (bnd1 (s_qdepth N N x0 x1 x2) fun n2 => br (decide (8 < n2)) (some 3) (some 0)))
noncomputable def cx_qCheck (N : Nat) : Cx := { T := T, isPure := tabP [⟨41, e_qvalid (s_qvalid N N)⟩, ⟨42, e_qnodes (s_qnodes N N)⟩, ⟨43, e_qdepth (s_qdepth N N)⟩], pureK := fun g ds K => tabK [⟨41, e_qvalid (s_qvalid N N)⟩, ⟨42, e_qnodes (s_qnodes N N)⟩, ⟨43, e_qdepth (s_qdepth N N)⟩] g ds K, memK := fun g dst ds m K => tabMK [] g dst ds m K, meth := tabM [], keep := fun _ => [], keepX := fun _ => [], loopT := fun _ _ _ _ => none, jumps := 9 }
theorem s_qCheck_ok (N : Nat) (x0 : Int) (x1 : Int) (x2 : List V) : bodyK (cx_qCheck N) Tryd.f18 [.agg [.v (.int .i64 x0) .no, .v (.int .i64 x1) .no, .v (.sl 24 x2) .no]] [] r_qCheck = s_qCheck N x0 x1 x2 := by
  kernel_rfl
theorem go_qCheck : Goes Tryd.prog 18 := goes_of Tryd.func18 (by kernel_rfl) (c := bodyOf Tryd.f18) (by kernel_rfl)
theorem eo_qCheck (s : Int → Int → List V → Option (Int)) (hs : ∀ (x0 : Int) (x1 : Int) (x2 : List V) (r0 : Int), s x0 x1 x2 = some r0 → PureRet Tryd.prog T 18 [.agg [.v (.int .i64 x0) .no, .v (.int .i64 x1) .no, .v (.sl 24 x2) .no]] [.v (.int .i64 r0) .no]) : EntOK Tryd.prog T ⟨18, e_qCheck s⟩ := by
  refine ⟨go_qCheck, fun R ds K r h => ?_, fun R ds K => ?_⟩
  · simp only [e_qCheck] at h
    split at h
    · obtain ⟨r0, h1, h2⟩ := bnd1_some h
      exact ⟨_, h2, hs _ _ _ _ h1⟩
    · cases h
  · simp only [e_qCheck]
    split
    · rw [bnd1_b]; rfl
    · rfl
theorem co_qCheck (N : Nat) : CxOK Tryd.prog (cx_qCheck N) :=
  cxOK_of2 (es := [⟨41, e_qvalid (s_qvalid N N)⟩, ⟨42, e_qnodes (s_qnodes N N)⟩, ⟨43, e_qdepth (s_qdepth N N)⟩]) (me := []) (ms := []) T_ok ⟨eo_qvalid _ (p_qvalid N N), eo_qnodes _ (p_qnodes N N), eo_qdepth _ (p_qdepth N N), trivial⟩ trivial trivial rfl (fun _ _ _ _ => rfl) (fun _ _ _ _ _ _ => rfl) rfl
theorem lo_qCheck (N : Nat) : LoopsOK (cx_qCheck N) Tryd.f18.ntmps (bodyOf Tryd.f18) :=
  loopsOK_of (k := 0) (by kernel_rfl) trivial
theorem p_qCheck (N : Nat) (x0 : Int) (x1 : Int) (x2 : List V) (r0 : Int) (h : s_qCheck N x0 x1 x2 = some r0) : PureRet Tryd.prog T 18 [.agg [.v (.int .i64 x0) .no, .v (.int .i64 x1) .no, .v (.sl 24 x2) .no]] [.v (.int .i64 r0) .no] :=
  pure_of (cx := cx_qCheck N) (by kernel_rfl) (co_qCheck N) Tryd.func18 (by kernel_rfl) (by kernel_rfl) (lo_qCheck N) rfl rfl rfl (rf := r_qCheck) ((s_qCheck_ok N x0 x1 x2).trans h) (fun rs' m h => by
    unfold r_qCheck at h
    split at h
    · cases h; exact ⟨rfl, rfl⟩
    · cases h)
noncomputable def e_qCheckRules {R : Type} (s : List V → Option (Int)) (ds : List D) (K : List D → Option R) : Option R :=
  match ds with
  | [.v (.sl 53 x0) .no] => bnd1 (s x0) fun r0 => K [.v (.int .i64 r0) .no]
  | _ => none
noncomputable def r_qCheckRules (rs : List D) (_ : Mem) : Option (Int) :=
  match rs with
  | [.v (.int .i64 r0) _] => some (r0)
  | _ => none
noncomputable def F_qCheckRules_4 {R : Type} (N : Nat) (vs0 : List V) (Lq : Int → Option R) (K0 : Int → Option R) (K1 : Option R) (n1 : Int) : Option R :=
  br (decide (n1 < (↑vs0.length : Int)))
  (br (decide (0 ≤ n1) && decide (n1 < (↑vs0.length : Int)))
    (at? vs0 n1.toNat fun x0 =>
      x0.unAgg fun l1 =>
        unCons l1 fun x2 l3 =>
          V.unInt IntKind.i64 x2 fun n4 =>
            unCons l3 fun x5 l6 =>
              V.unInt IntKind.i64 x5 fun n7 =>
                unCons l6 fun x8 l9 =>
                  V.unInt IntKind.i64 x8 fun n10 =>
                    unCons l9 fun x11 l12 =>
                      V.unSl 24 x11 fun l13 =>
                        unNil l12
                          (br (decide (n4 < 1)) (K0 1)
                            (br (decide (0 ≤ n1) && decide (n1 < (↑vs0.length : Int)))
                              (at? vs0 n1.toNat fun x14 =>
                                x14.unAgg fun l15 =>
                                  unCons l15 fun x16 l17 =>
                                    V.unInt IntKind.i64 x16 fun n18 =>
                                      unCons l17 fun x19 l20 =>
                                        V.unInt IntKind.i64 x19 fun n21 =>
                                          unCons l20 fun x22 l23 =>
                                            V.unInt IntKind.i64 x22 fun n24 =>
                                              unCons l23 fun x25 l26 =>
                                                V.unSl 24 x25 fun l27 =>
                                                  unNil l26
                                                    (br (decide (255 < n18)) (K0 1)
                                                      (br (decide (0 ≤ n1) && decide (n1 < (↑vs0.length : Int)))
                                                        (at? vs0 n1.toNat fun x28 =>
                                                          x28.unAgg fun l29 =>
                                                            unCons l29 fun x30 l31 =>
                                                              V.unInt IntKind.i64 x30 fun n32 =>
                                                                unCons l31 fun x33 l34 =>
                                                                  V.unInt IntKind.i64 x33 fun n35 =>
                                                                    unCons l34 fun x36 l37 =>
                                                                      V.unInt IntKind.i64 x36 fun n38 =>
                                                                        unCons l37 fun x39 l40 =>
                                                                          V.unSl 24 x39 fun l41 => unNil l40 (bnd1 (s_qCheck N n35 n38 l41) fun n42 => br (!decide (n42 = 0)) (K0 n42) (Lq (IntKind.i64.wrap (n1 + 1)))))
                                                        none)))
                              none)))
    none)
  K1
noncomputable def S_qCheckRules_4 {R : Type} (N : Nat) (vs0 : List V) : Nat → Int → (Int → Option R) → (Option R) → Option R
  | 0, _, _, _ => none
  | t + 1, n1, K0, K1 => F_qCheckRules_4 N vs0 (fun n1 => S_qCheckRules_4 N vs0 t n1 K0 K1) K0 K1 n1
noncomputable def l_qCheckRules_4 {R : Type} (N : Nat) (ds : List D) (m : Mem) (K : Ex → List D → Mem → Option R) : Option R :=
  match ds, m with
  | [(.v (.sl 53 vs0) .no), (.v (.int .i64 n1) .no)], [[]] => S_qCheckRules_4 N vs0 N n1 (fun a0 => K .ret [(.v (.int .i64 a0) .no)] [[]]) (K (.exit 0) [.any] [[]])
  | _, _ => none
noncomputable def s_qCheckRules (N : Nat) (x0 : List V) : Option (Int) :=
  br (decide (8 < (↑x0.length : Int))) (some 3) (S_qCheckRules_4 N x0 N 0 (fun n0 => some n0) (some 0))
noncomputable def cx_qCheckRules (N : Nat) : Cx := { T := T, isPure := tabP [⟨18, e_qCheck (s_qCheck N)⟩], pureK := fun g ds K => tabK [⟨18, e_qCheck (s_qCheck N)⟩] g ds K, memK := fun g dst ds m K => tabMK [] g dst ds m K, meth := tabM [], keep := fun r => match r with | 4 => [0, 3] | _ => [], keepX := fun r => match r with | 4 => [2] | _ => [], loopT := fun r ds m K => match r with | 4 => l_qCheckRules_4 N ds m K | _ => none, jumps := 9 }
theorem F_qCheckRules_4_ok {R : Type} (N : Nat) (vs0 : List V) (n1 : Int) (L : List D → Mem → Option R) (K : Ex → List D → Mem → Option R) :
    roundK (fun st K => codeK (cx_qCheckRules N) (loopN Tryd.f31 0) st K) 37 [0, 3] [2] L [(.v (.sl 53 vs0) .no), (.v (.int .i64 n1) .no)] [[]] K = F_qCheckRules_4 N vs0 (fun n1 => L [(.v (.sl 53 vs0) .no), (.v (.int .i64 n1) .no)] [[]]) (fun a0 => K .ret [(.v (.int .i64 a0) .no)] [[]]) (K (.exit 0) [.any] [[]]) n1 := by
  kernel_rfl
theorem S_qCheckRules_4_ok {R : Type} (N : Nat) (vs0 : List V) (K : Ex → List D → Mem → Option R) : ∀ (t : Nat) (n1 : Int),
    loopK (fun st K => codeK (cx_qCheckRules N) (loopN Tryd.f31 0) st K) 37 [0, 3] [2] t [(.v (.sl 53 vs0) .no), (.v (.int .i64 n1) .no)] [[]] K = S_qCheckRules_4 N vs0 t n1 (fun a0 => K .ret [(.v (.int .i64 a0) .no)] [[]]) (K (.exit 0) [.any] [[]])
  | 0, n1 => rfl
  | t + 1, n1 => (F_qCheckRules_4_ok N vs0 n1 _ K).trans (congrArg (fun L => F_qCheckRules_4 N vs0 L (fun a0 => K .ret [(.v (.int .i64 a0) .no)] [[]]) (K (.exit 0) [.any] [[]]) n1) (funext fun n1 => S_qCheckRules_4_ok N vs0 K t n1))
theorem s_qCheckRules_ok (N : Nat) (x0 : List V) : bodyK (cx_qCheckRules N) Tryd.f31 [.v (.sl 53 x0) .no] [] r_qCheckRules = s_qCheckRules N x0 := by
  kernel_rfl
theorem go_qCheckRules : Goes Tryd.prog 31 := goes_of Tryd.func31 (by kernel_rfl) (c := bodyOf Tryd.f31) (by kernel_rfl)
theorem eo_qCheckRules (s : List V → Option (Int)) (hs : ∀ (x0 : List V) (r0 : Int), s x0 = some r0 → PureRet Tryd.prog T 31 [.v (.sl 53 x0) .no] [.v (.int .i64 r0) .no]) : EntOK Tryd.prog T ⟨31, e_qCheckRules s⟩ := by
  refine ⟨go_qCheckRules, fun R ds K r h => ?_, fun R ds K => ?_⟩
  · simp only [e_qCheckRules] at h
    split at h
    · obtain ⟨r0, h1, h2⟩ := bnd1_some h
      exact ⟨_, h2, hs _ _ h1⟩
    · cases h
  · simp only [e_qCheckRules]
    split
    · rw [bnd1_b]; rfl
    · rfl
theorem co_qCheckRules (N : Nat) : CxOK Tryd.prog (cx_qCheckRules N) :=
  cxOK_of2 (es := [⟨18, e_qCheck (s_qCheck N)⟩]) (me := []) (ms := []) T_ok ⟨eo_qCheck _ (p_qCheck N), trivial⟩ trivial trivial rfl (fun _ _ _ _ => rfl) (fun _ _ _ _ _ _ => rfl) rfl
theorem lk_qCheckRules_4 (N : Nat) : LoopOK (cx_qCheckRules N) 37 (loopN Tryd.f31 0) := by
  refine loopOK_of (rid := 4) (by kernel_rfl) rfl rfl fun R ds m K r h => ?_
  have h : l_qCheckRules_4 N ds m K = some r := h
  unfold l_qCheckRules_4 at h
  split at h
  · exact ⟨N, Eq.trans (S_qCheckRules_4_ok ..) h⟩
  · cases h
theorem lo_qCheckRules (N : Nat) : LoopsOK (cx_qCheckRules N) Tryd.f31.ntmps (bodyOf Tryd.f31) :=
  loopsOK_of (k := 1) (by kernel_rfl) ⟨trivial, lk_qCheckRules_4 N⟩
theorem p_qCheckRules (N : Nat) (x0 : List V) (r0 : Int) (h : s_qCheckRules N x0 = some r0) : PureRet Tryd.prog T 31 [.v (.sl 53 x0) .no] [.v (.int .i64 r0) .no] :=
  pure_of (cx := cx_qCheckRules N) (by kernel_rfl) (co_qCheckRules N) Tryd.func31 (by kernel_rfl) (by kernel_rfl) (lo_qCheckRules N) rfl rfl rfl (rf := r_qCheckRules) ((s_qCheckRules_ok N x0).trans h) (fun rs' m h => by
    unfold r_qCheckRules at h
    split at h
    · cases h; exact ⟨rfl, rfl⟩
    · cases h)
noncomputable def e_qBytes {R : Type} (s : Int → Int → List V → Option (List UInt8)) (ds : List D) (K : List D → Option R) : Option R :=
  match ds with
  | [.agg [.v (.int .i64 x0) .no, .v (.int .i64 x1) .no, .v (.sl 24 x2) .no]] => bnd1 (s x0 x1 x2) fun r0 => K [.v (.bytes r0) .no]
  | _ => none
noncomputable def r_qBytes (rs : List D) (_ : Mem) : Option (List UInt8) :=
  match rs with
  | [.v (.bytes r0) _] => some (r0)
  | _ => none
noncomputable def F_qBytes_5 {R : Type} (N : Nat) (f : Int → Int → List V → Option (List UInt8)) (n2 : Int) (n3 : Int) (vs4 : List V) (Lq : List UInt8 → Int → Option R) (K0 : List UInt8 → Option R) (l0 : List UInt8) (n1 : Int) : Option R :=
  br (decide (n1 < (↑vs4.length : Int)))
  (br (decide (0 ≤ n1) && decide (n1 < (↑vs4.length : Int)))
    (at? vs4 n1.toNat fun x0 =>
      x0.unAgg fun l1 =>
        unCons l1 fun x2 l3 =>
          V.unInt IntKind.i64 x2 fun n4 =>
            unCons l3 fun x5 l6 =>
              V.unInt IntKind.i64 x5 fun n7 =>
                unCons l6 fun x8 l9 => V.unSl 24 x8 fun l10 => unNil l9 (bnd1 (f n4 n7 l10) fun l11 => br (decide ((l0.length + l11.length) * 1 ≤ 140737488355328)) (Lq (l0 ++ l11) (IntKind.i64.wrap (n1 + 1))) none))
    none)
  (K0 l0)
noncomputable def S_qBytes_5 {R : Type} (N : Nat) (f : Int → Int → List V → Option (List UInt8)) (n2 : Int) (n3 : Int) (vs4 : List V) : Nat → List UInt8 → Int → (List UInt8 → Option R) → Option R
  | 0, _, _, _ => none
  | t + 1, l0, n1, K0 => F_qBytes_5 N f n2 n3 vs4 (fun l0 n1 => S_qBytes_5 N f n2 n3 vs4 t l0 n1 K0) K0 l0 n1
noncomputable def l_qBytes_5 {R : Type} (N : Nat) (f : Int → Int → List V → Option (List UInt8)) (ds : List D) (m : Mem) (K : Ex → List D → Mem → Option R) : Option R :=
  match ds, m with
  | [(.ptr 0 1 0), (.v (.bytes l0) (.own (.slot 3) 5)), (.v (.int .i64 n1) .no)], [[(1, ⟨24, [(.v (.int .i64 n2) .no), (.v (.int .i64 n3) .no), (.v (.sl 24 vs4) .no)]⟩)]] => S_qBytes_5 N f n2 n3 vs4 N l0 n1 (fun a0 => K (.exit 0) [(.ptr 0 1 0), (.v (.bytes a0) (.own (.slot 3) 5))] [[(1, ⟨24, [(.v (.int .i64 n2) .no), (.v (.int .i64 n3) .no), (.v (.sl 24 vs4) .no)]⟩)]])
  | _, _ => none
noncomputable def B_qBytes (N : Nat) (f : Int → Int → List V → Option (List UInt8)) (x0 : Int) (x1 : Int) (x2 : List V) : Option (List UInt8) :=
  br (decide (6 ≤ x0)) (S_qBytes_5 N f x0 x1 x2 N [UInt8.ofNat (IntKind.u8.wrap x0).toNat, UInt8.ofNat (IntKind.u8.wrap (↑x2.length : Int)).toNat] 0 fun l0 => some l0)
  (br (decide (2 ≤ x0)) (some [UInt8.ofNat (IntKind.u8.wrap x0).toNat, UInt8.ofNat (IntKind.u8.wrap x1).toNat]) (some [UInt8.ofNat (IntKind.u8.wrap x0).toNat]))
noncomputable def s_qBytes (N : Nat) : Nat → Int → Int → List V → Option (List UInt8)
  | 0, _, _, _ => none
  | n + 1, x0, x1, x2 => B_qBytes N (s_qBytes N n) x0 x1 x2
noncomputable def cx_qBytes (N : Nat) (f : Int → Int → List V → Option (List UInt8)) : Cx := { T := T, isPure := tabP [⟨53, e_qBytes f⟩], pureK := fun g ds K => tabK [⟨53, e_qBytes f⟩] g ds K, memK := fun g dst ds m K => tabMK [] g dst ds m K, meth := tabM [], keep := fun r => match r with | 5 => [1, 3, 4] | _ => [], keepX := fun r => match r with | 5 => [1, 3] | _ => [], loopT := fun r ds m K => match r with | 5 => l_qBytes_5 N f ds m K | _ => none, jumps := 9 }
theorem F_qBytes_5_ok {R : Type} (N : Nat) (f : Int → Int → List V → Option (List UInt8)) (n2 : Int) (n3 : Int) (vs4 : List V) (l0 : List UInt8) (n1 : Int) (L : List D → Mem → Option R) (K : Ex → List D → Mem → Option R) :
    roundK (fun st K => codeK (cx_qBytes N f) (loopN Tryd.f53 0) st K) 45 [1, 3, 4] [1, 3] L [(.ptr 0 1 0), (.v (.bytes l0) (.own (.slot 3) 5)), (.v (.int .i64 n1) .no)] [[(1, ⟨24, [(.v (.int .i64 n2) .no), (.v (.int .i64 n3) .no), (.v (.sl 24 vs4) .no)]⟩)]] K = F_qBytes_5 N f n2 n3 vs4 (fun l0 n1 => L [(.ptr 0 1 0), (.v (.bytes l0) (.own (.slot 3) 5)), (.v (.int .i64 n1) .no)] [[(1, ⟨24, [(.v (.int .i64 n2) .no), (.v (.int .i64 n3) .no), (.v (.sl 24 vs4) .no)]⟩)]]) (fun a0 => K (.exit 0) [(.ptr 0 1 0), (.v (.bytes a0) (.own (.slot 3) 5))] [[(1, ⟨24, [(.v (.int .i64 n2) .no), (.v (.int .i64 n3) .no), (.v (.sl 24 vs4) .no)]⟩)]]) l0 n1 := by
  kernel_rfl
theorem S_qBytes_5_ok {R : Type} (N : Nat) (f : Int → Int → List V → Option (List UInt8)) (n2 : Int) (n3 : Int) (vs4 : List V) (K : Ex → List D → Mem → Option R) : ∀ (t : Nat) (l0 : List UInt8) (n1 : Int),
    loopK (fun st K => codeK (cx_qBytes N f) (loopN Tryd.f53 0) st K) 45 [1, 3, 4] [1, 3] t [(.ptr 0 1 0), (.v (.bytes l0) (.own (.slot 3) 5)), (.v (.int .i64 n1) .no)] [[(1, ⟨24, [(.v (.int .i64 n2) .no), (.v (.int .i64 n3) .no), (.v (.sl 24 vs4) .no)]⟩)]] K = S_qBytes_5 N f n2 n3 vs4 t l0 n1 (fun a0 => K (.exit 0) [(.ptr 0 1 0), (.v (.bytes a0) (.own (.slot 3) 5))] [[(1, ⟨24, [(.v (.int .i64 n2) .no), (.v (.int .i64 n3) .no), (.v (.sl 24 vs4) .no)]⟩)]])
  | 0, l0, n1 => rfl
  | t + 1, l0, n1 => (F_qBytes_5_ok N f n2 n3 vs4 l0 n1 _ K).trans (congrArg (fun L => F_qBytes_5 N f n2 n3 vs4 L (fun a0 => K (.exit 0) [(.ptr 0 1 0), (.v (.bytes a0) (.own (.slot 3) 5))] [[(1, ⟨24, [(.v (.int .i64 n2) .no), (.v (.int .i64 n3) .no), (.v (.sl 24 vs4) .no)]⟩)]]) l0 n1) (funext fun l0 => funext fun n1 => S_qBytes_5_ok N f n2 n3 vs4 K t l0 n1))
theorem B_qBytes_ok (N : Nat) (f : Int → Int → List V → Option (List UInt8)) (x0 : Int) (x1 : Int) (x2 : List V) : bodyK (cx_qBytes N f) Tryd.f53 [.agg [.v (.int .i64 x0) .no, .v (.int .i64 x1) .no, .v (.sl 24 x2) .no]] [] r_qBytes = B_qBytes N f x0 x1 x2 := by
  kernel_rfl
theorem go_qBytes : Goes Tryd.prog 53 := goes_of Tryd.func53 (by kernel_rfl) (c := bodyOf Tryd.f53) (by kernel_rfl)
theorem eo_qBytes (s : Int → Int → List V → Option (List UInt8)) (hs : ∀ (x0 : Int) (x1 : Int) (x2 : List V) (r0 : List UInt8), s x0 x1 x2 = some r0 → PureRet Tryd.prog T 53 [.agg [.v (.int .i64 x0) .no, .v (.int .i64 x1) .no, .v (.sl 24 x2) .no]] [.v (.bytes r0) .no]) : EntOK Tryd.prog T ⟨53, e_qBytes s⟩ := by
  refine ⟨go_qBytes, fun R ds K r h => ?_, fun R ds K => ?_⟩
  · simp only [e_qBytes] at h
    split at h
    · obtain ⟨r0, h1, h2⟩ := bnd1_some h
      exact ⟨_, h2, hs _ _ _ _ h1⟩
    · cases h
  · simp only [e_qBytes]
    split
    · rw [bnd1_b]; rfl
    · rfl
theorem co_qBytes (N : Nat) (f : Int → Int → List V → Option (List UInt8)) (hf : ∀ (x0 : Int) (x1 : Int) (x2 : List V) (r0 : List UInt8), f x0 x1 x2 = some r0 → PureRet Tryd.prog T 53 [.agg [.v (.int .i64 x0) .no, .v (.int .i64 x1) .no, .v (.sl 24 x2) .no]] [.v (.bytes r0) .no]) : CxOK Tryd.prog (cx_qBytes N f) :=
  cxOK_of2 (es := [⟨53, e_qBytes f⟩]) (me := []) (ms := []) T_ok ⟨eo_qBytes f hf, trivial⟩ trivial trivial rfl (fun _ _ _ _ => rfl) (fun _ _ _ _ _ _ => rfl) rfl
theorem lk_qBytes_5 (N : Nat) (f : Int → Int → List V → Option (List UInt8)) : LoopOK (cx_qBytes N f) 45 (loopN Tryd.f53 0) := by
  refine loopOK_of (rid := 5) (by kernel_rfl) rfl rfl fun R ds m K r h => ?_
  have h : l_qBytes_5 N f ds m K = some r := h
  unfold l_qBytes_5 at h
  split at h
  · exact ⟨N, Eq.trans (S_qBytes_5_ok ..) h⟩
  · cases h
theorem lo_qBytes (N : Nat) (f : Int → Int → List V → Option (List UInt8)) : LoopsOK (cx_qBytes N f) Tryd.f53.ntmps (bodyOf Tryd.f53) :=
  loopsOK_of (k := 1) (by kernel_rfl) ⟨trivial, lk_qBytes_5 N f⟩
theorem p_qBytes (N : Nat) : ∀ (M : Nat) (x0 : Int) (x1 : Int) (x2 : List V) (r0 : List UInt8), s_qBytes N M x0 x1 x2 = some r0 → PureRet Tryd.prog T 53 [.agg [.v (.int .i64 x0) .no, .v (.int .i64 x1) .no, .v (.sl 24 x2) .no]] [.v (.bytes r0) .no]
  | 0, _, _, _, _, h => by cases h
  | M + 1, x0, x1, x2, r0, h => pure_of (cx := cx_qBytes N (s_qBytes N M)) (by kernel_rfl) (co_qBytes N (s_qBytes N M) (p_qBytes N M)) Tryd.func53 (by kernel_rfl) (by kernel_rfl) (lo_qBytes N (s_qBytes N M)) rfl rfl rfl (rf := r_qBytes) ((B_qBytes_ok N (s_qBytes N M) x0 x1 x2).trans h) (fun rs' m h => by
    unfold r_qBytes at h
    split at h
    · cases h; exact ⟨rfl, rfl⟩
    · cases h)
noncomputable def e_qEncode {R : Type} (s : List V → Option (List UInt8 × Int)) (ds : List D) (K : List D → Option R) : Option R :=
  match ds with
  | [.v (.sl 53 x0) .no] => bnd2 (s x0) fun r0 r1 => K [.v (.bytes r0) .no, .v (.int .i64 r1) .no]
  | _ => none
noncomputable def r_qEncode (rs : List D) (_ : Mem) : Option (List UInt8 × Int) :=
  match rs with
  | [.v (.bytes r0) _, .v (.int .i64 r1) _] => some (r0, r1)
  | _ => none
noncomputable def F_qEncode_6 {R : Type} (N : Nat) (vs0 : List V) (Lq : List V → Int → Option R) (K0 : List V → Option R) (vs1 : List V) (n2 : Int) : Option R :=
  br (decide (n2 < (↑vs0.length : Int)))
  (br (decide (0 ≤ n2) && decide (n2 < (↑vs0.length : Int)))
    (at? vs0 n2.toNat fun x0 =>
      x0.unAgg fun l1 =>
        unCons l1 fun x2 l3 =>
          V.unInt IntKind.i64 x2 fun n4 =>
            unCons l3 fun x5 l6 =>
              V.unInt IntKind.i64 x5 fun n7 =>
                unCons l6 fun x8 l9 =>
                  V.unInt IntKind.i64 x8 fun n10 =>
                    unCons l9 fun x11 l12 =>
                      V.unSl 24 x11 fun l13 =>
                        unNil l12
                          (br (decide (0 ≤ n2) && decide (n2 < (↑vs0.length : Int)))
                            (at? vs0 n2.toNat fun x14 =>
                              x14.unAgg fun l15 =>
                                unCons l15 fun x16 l17 =>
                                  V.unInt IntKind.i64 x16 fun n18 =>
                                    unCons l17 fun x19 l20 =>
                                      V.unInt IntKind.i64 x19 fun n21 =>
                                        unCons l20 fun x22 l23 =>
                                          V.unInt IntKind.i64 x22 fun n24 =>
                                            unCons l23 fun x25 l26 =>
                                              V.unSl 24 x25 fun l27 =>
                                                unNil l26
                                                  (bnd1 (s_qBytes N N n21 n24 l27) fun l28 =>
                                                    br (decide (([UInt8.ofNat (IntKind.u8.wrap n4).toNat].length + l28.length) * 1 ≤ 140737488355328))
                                                      (br (decide ((vs1.length + [V.agg [V.int IntKind.i64 128, V.bytes (UInt8.ofNat (IntKind.u8.wrap n4).toNat :: [].append l28), V.sl 67 []]].length) * 56 ≤ 140737488355328))
                                                        (Lq (vs1 ++ [V.agg [V.int IntKind.i64 128, V.bytes (UInt8.ofNat (IntKind.u8.wrap n4).toNat :: [].append l28), V.sl 67 []]]) (IntKind.i64.wrap (n2 + 1))) none)
                                                      none))
                            none))
    none)
  (K0 vs1)
noncomputable def S_qEncode_6 {R : Type} (N : Nat) (vs0 : List V) : Nat → List V → Int → (List V → Option R) → Option R
  | 0, _, _, _ => none
  | t + 1, vs1, n2, K0 => F_qEncode_6 N vs0 (fun vs1 n2 => S_qEncode_6 N vs0 t vs1 n2 K0) K0 vs1 n2
noncomputable def l_qEncode_6 {R : Type} (N : Nat) (ds : List D) (m : Mem) (K : Ex → List D → Mem → Option R) : Option R :=
  match ds, m with
  | [(.v (.sl 53 vs0) .no), (.v (.sl 67 vs1) (.own (.slot 5) 67)), (.v (.int .i64 n2) .no)], [[]] => S_qEncode_6 N vs0 N vs1 n2 (fun a0 => K (.exit 0) [(.v (.sl 67 a0) (.own (.slot 5) 67))] [[]])
  | _, _ => none
noncomputable def s_qEncode (N : Nat) (x0 : List V) : Option (List UInt8 × Int) :=
  bnd1 (s_qCheckRules N x0) fun n0 => br (!decide (n0 = 0)) (some ([], n0)) (S_qEncode_6 N x0 N [] 0 fun l1 => bnd2 (s_rEncode N l1) fun l2 n3 => some (l2, n3))
noncomputable def cx_qEncode (N : Nat) : Cx := { T := T, isPure := tabP [⟨31, e_qCheckRules (s_qCheckRules N)⟩, ⟨53, e_qBytes (s_qBytes N N)⟩, ⟨54, e_rEncode (s_rEncode N)⟩], pureK := fun g ds K => tabK [⟨31, e_qCheckRules (s_qCheckRules N)⟩, ⟨53, e_qBytes (s_qBytes N N)⟩, ⟨54, e_rEncode (s_rEncode N)⟩] g ds K, memK := fun g dst ds m K => tabMK [] g dst ds m K, meth := tabM [], keep := fun r => match r with | 6 => [0, 5, 6] | _ => [], keepX := fun r => match r with | 6 => [5] | _ => [], loopT := fun r ds m K => match r with | 6 => l_qEncode_6 N ds m K | _ => none, jumps := 9 }
theorem F_qEncode_6_ok {R : Type} (N : Nat) (vs0 : List V) (vs1 : List V) (n2 : Int) (L : List D → Mem → Option R) (K : Ex → List D → Mem → Option R) :
    roundK (fun st K => codeK (cx_qEncode N) (loopN Tryd.f26 0) st K) 40 [0, 5, 6] [5] L [(.v (.sl 53 vs0) .no), (.v (.sl 67 vs1) (.own (.slot 5) 67)), (.v (.int .i64 n2) .no)] [[]] K = F_qEncode_6 N vs0 (fun vs1 n2 => L [(.v (.sl 53 vs0) .no), (.v (.sl 67 vs1) (.own (.slot 5) 67)), (.v (.int .i64 n2) .no)] [[]]) (fun a0 => K (.exit 0) [(.v (.sl 67 a0) (.own (.slot 5) 67))] [[]]) vs1 n2 := by
  kernel_rfl
theorem S_qEncode_6_ok {R : Type} (N : Nat) (vs0 : List V) (K : Ex → List D → Mem → Option R) : ∀ (t : Nat) (vs1 : List V) (n2 : Int),
    loopK (fun st K => codeK (cx_qEncode N) (loopN Tryd.f26 0) st K) 40 [0, 5, 6] [5] t [(.v (.sl 53 vs0) .no), (.v (.sl 67 vs1) (.own (.slot 5) 67)), (.v (.int .i64 n2) .no)] [[]] K = S_qEncode_6 N vs0 t vs1 n2 (fun a0 => K (.exit 0) [(.v (.sl 67 a0) (.own (.slot 5) 67))] [[]])
  | 0, vs1, n2 => rfl
  | t + 1, vs1, n2 => (F_qEncode_6_ok N vs0 vs1 n2 _ K).trans (congrArg (fun L => F_qEncode_6 N vs0 L (fun a0 => K (.exit 0) [(.v (.sl 67 a0) (.own (.slot 5) 67))] [[]]) vs1 n2) (funext fun vs1 => funext fun n2 => S_qEncode_6_ok N vs0 K t vs1 n2))
theorem s_qEncode_ok (N : Nat) (x0 : List V) : bodyK (cx_qEncode N) Tryd.f26 [.v (.sl 53 x0) .no] [] r_qEncode = s_qEncode N x0 := by
  kernel_rfl
theorem go_qEncode : Goes Tryd.prog 26 := goes_of Tryd.func26 (by kernel_rfl) (c := bodyOf Tryd.f26) (by kernel_rfl)
theorem eo_qEncode (s : List V → Option (List UInt8 × Int)) (hs : ∀ (x0 : List V) (r0 : List UInt8) (r1 : Int), s x0 = some (r0, r1) → PureRet Tryd.prog T 26 [.v (.sl 53 x0) .no] [.v (.bytes r0) .no, .v (.int .i64 r1) .no]) : EntOK Tryd.prog T ⟨26, e_qEncode s⟩ := by
  refine ⟨go_qEncode, fun R ds K r h => ?_, fun R ds K => ?_⟩
  · simp only [e_qEncode] at h
    split at h
    · obtain ⟨r0, r1, h1, h2⟩ := bnd2_some h
      exact ⟨_, h2, hs _ _ _ h1⟩
    · cases h
  · simp only [e_qEncode]
    split
    · rw [bnd2_b]; rfl
    · rfl
theorem co_qEncode (N : Nat) : CxOK Tryd.prog (cx_qEncode N) :=
  cxOK_of2 (es := [⟨31, e_qCheckRules (s_qCheckRules N)⟩, ⟨53, e_qBytes (s_qBytes N N)⟩, ⟨54, e_rEncode (s_rEncode N)⟩]) (me := []) (ms := []) T_ok ⟨eo_qCheckRules _ (p_qCheckRules N), eo_qBytes _ (p_qBytes N N), eo_rEncode _ (p_rEncode N), trivial⟩ trivial trivial rfl (fun _ _ _ _ => rfl) (fun _ _ _ _ _ _ => rfl) rfl
theorem lk_qEncode_6 (N : Nat) : LoopOK (cx_qEncode N) 40 (loopN Tryd.f26 0) := by
  refine loopOK_of (rid := 6) (by kernel_rfl) rfl rfl fun R ds m K r h => ?_
  have h : l_qEncode_6 N ds m K = some r := h
  unfold l_qEncode_6 at h
  split at h
  · exact ⟨N, Eq.trans (S_qEncode_6_ok ..) h⟩
  · cases h
theorem lo_qEncode (N : Nat) : LoopsOK (cx_qEncode N) Tryd.f26.ntmps (bodyOf Tryd.f26) :=
  loopsOK_of (k := 1) (by kernel_rfl) ⟨trivial, lk_qEncode_6 N⟩
theorem p_qEncode (N : Nat) (x0 : List V) (r0 : List UInt8) (r1 : Int) (h : s_qEncode N x0 = some (r0, r1)) : PureRet Tryd.prog T 26 [.v (.sl 53 x0) .no] [.v (.bytes r0) .no, .v (.int .i64 r1) .no] :=
  pure_of (cx := cx_qEncode N) (by kernel_rfl) (co_qEncode N) Tryd.func26 (by kernel_rfl) (by kernel_rfl) (lo_qEncode N) rfl rfl rfl (rf := r_qEncode) ((s_qEncode_ok N x0).trans h) (fun rs' m h => by
    unfold r_qEncode at h
    split at h
    · cases h; exact ⟨rfl, rfl⟩
    · cases h)
noncomputable def e_qread {R : Type} (s : List UInt8 → Int → Option (Int × Int × List V × List UInt8 × Bool)) (ds : List D) (K : List D → Option R) : Option R :=
  match ds with
  | [.v (.bytes x0) .no, .v (.int .i64 x1) .no] => bnd5 (s x0 x1) fun r0 r1 r2 r3 r4 => K [.agg [.v (.int .i64 r0) .no, .v (.int .i64 r1) .no, .v (.sl 24 r2) .no], .v (.bytes r3) .no, .v (.bool r4) .no]
  | _ => none
noncomputable def r_qread (rs : List D) (_ : Mem) : Option (Int × Int × List V × List UInt8 × Bool) :=
  match rs with
  | [.agg [.v (.int .i64 r0) _, .v (.int .i64 r1) _, .v (.sl 24 r2) _], .v (.bytes r3) _, .v (.bool r4) _] => some (r0, r1, r2, r3, r4)
  | _ => none
noncomputable def F_qread_16 {R : Type} (N : Nat) (f : List UInt8 → Int → Option (Int × Int × List V × List UInt8 × Bool)) (n1 : Int) (n2 : Int) (n4 : Int) (n5 : Int) (vs6 : List V) (n7 : Int) (n8 : Int) (Lq : List UInt8 → Int → List V → Option R) (K0 : List UInt8 → List UInt8 → Bool → List V → List V → Option R) (K1 : List UInt8 → List V → Option R) (l0 : List UInt8) (n3 : Int) (vs9 : List V) : Option R :=
  br (decide (n3 < n2))
  (bnd5 (f l0 (IntKind.i64.wrap (n1 - 1))) fun n0 n1 l2 l3 b4 =>
    br (!b4) (K0 l0 [] false vs9 vs9)
      (br (decide ((vs9.length + [V.agg [V.int IntKind.i64 n0, V.int IntKind.i64 n1, V.sl 24 l2]].length) * 40 ≤ 140737488355328)) (Lq l3 (IntKind.i64.wrap (n3 + 1)) (vs9 ++ [V.agg [V.int IntKind.i64 n0, V.int IntKind.i64 n1, V.sl 24 l2]]))
        none))
  (K1 l0 vs9)
noncomputable def S_qread_16 {R : Type} (N : Nat) (f : List UInt8 → Int → Option (Int × Int × List V × List UInt8 × Bool)) (n1 : Int) (n2 : Int) (n4 : Int) (n5 : Int) (vs6 : List V) (n7 : Int) (n8 : Int) : Nat → List UInt8 → Int → List V → (List UInt8 → List UInt8 → Bool → List V → List V → Option R) → (List UInt8 → List V → Option R) → Option R
  | 0, _, _, _, _, _ => none
  | t + 1, l0, n3, vs9, K0, K1 => F_qread_16 N f n1 n2 n4 n5 vs6 n7 n8 (fun l0 n3 vs9 => S_qread_16 N f n1 n2 n4 n5 vs6 n7 n8 t l0 n3 vs9 K0 K1) K0 K1 l0 n3 vs9
noncomputable def l_qread_16 {R : Type} (N : Nat) (f : List UInt8 → Int → Option (Int × Int × List V × List UInt8 × Bool)) (ds : List D) (m : Mem) (K : Ex → List D → Mem → Option R) : Option R :=
  match ds, m with
  | [(.v (.bytes l0) .no), (.v (.int .i64 n1) .no), (.ptr 0 4 0), (.ptr 0 7 0), (.v (.int .i64 n2) .no), (.v (.int .i64 n3) .no)], [[(4, ⟨24, [(.v (.int .i64 n4) .no), (.v (.int .i64 n5) .no), (.v (.sl 24 vs6) (.own (.slot 0) 24))]⟩), (7, ⟨24, [(.v (.int .i64 n7) .no), (.v (.int .i64 n8) .no), (.v (.sl 24 vs9) (.own (.slot 0) 24))]⟩)]] => S_qread_16 N f n1 n2 n4 n5 vs6 n7 n8 N l0 n3 vs9 (fun a0 a1 a2 a5 a8 => K .ret [(.v (.bytes a0) .no), (.ptr 0 4 0), (.v (.bytes a1) (.own (.slot 5) 5)), (.v (.bool a2) .no), (.ptr 0 7 0)] [[(4, ⟨24, [(.v (.int .i64 n7) .no), (.v (.int .i64 n8) .no), (.v (.sl 24 a5) .no)]⟩), (7, ⟨24, [(.v (.int .i64 n7) .no), (.v (.int .i64 n8) .no), (.v (.sl 24 a8) (.own (.slot 0) 24))]⟩)]]) (fun a0 a6 => K (.exit 0) [(.v (.bytes a0) .no), (.ptr 0 4 0), .any, .any, (.ptr 0 7 0)] [[(4, ⟨24, [(.v (.int .i64 n4) .no), (.v (.int .i64 n5) .no), (.v (.sl 24 vs6) (.own (.slot 0) 24))]⟩), (7, ⟨24, [(.v (.int .i64 n7) .no), (.v (.int .i64 n8) .no), (.v (.sl 24 a6) (.own (.slot 0) 24))]⟩)]])
  | _, _ => none
noncomputable def B_qread (N : Nat) (f : List UInt8 → Int → Option (Int × Int × List V × List UInt8 × Bool)) (x0 : List UInt8) (x1 : Int) : Option (Int × Int × List V × List UInt8 × Bool) :=
  br (decide ((↑x0.length : Int) = 0)) (some (0, 0, [], [], false))
  (br (decide (x1 < 1)) (some (0, 0, [], [], false))
    (br (decide (0 < (↑x0.length : Int)))
      (at? x0 0 fun u0 =>
        br (decide (1 ≤ (↑x0.length : Int)))
          (br (decide (IntKind.i64.wrap (↑u0.toNat : Int) < 2)) (some (IntKind.i64.wrap (↑u0.toNat : Int), 0, [], List.drop 1 x0, true))
            (br (decide ((↑(List.drop 1 x0).length : Int) = 0)) (some (IntKind.i64.wrap (↑u0.toNat : Int), 0, [], [], false))
              (br (decide (0 < (↑(List.drop 1 x0).length : Int)))
                (at? (List.drop 1 x0) 0 fun u1 =>
                  br (decide (1 ≤ (↑(List.drop 1 x0).length : Int)))
                    (br (decide (IntKind.i64.wrap (↑u0.toNat : Int) < 6)) (some (IntKind.i64.wrap (↑u0.toNat : Int), IntKind.i64.wrap (↑u1.toNat : Int), [], List.drop 1 (List.drop 1 x0), true))
                      (S_qread_16 N f x1 (IntKind.i64.wrap (↑u1.toNat : Int)) 0 0 [] (IntKind.i64.wrap (↑u0.toNat : Int)) 0 N (List.drop 1 (List.drop 1 x0)) 0 []
                        (fun l2 l3 b4 l5 l6 => some (IntKind.i64.wrap (↑u0.toNat : Int), 0, l5, l3, b4)) fun l7 l8 => some (IntKind.i64.wrap (↑u0.toNat : Int), 0, l8, l7, true)))
                    none)
                none)))
          none)
      none))
noncomputable def s_qread (N : Nat) : Nat → List UInt8 → Int → Option (Int × Int × List V × List UInt8 × Bool)
  | 0, _, _ => none
  | n + 1, x0, x1 => B_qread N (s_qread N n) x0 x1
noncomputable def cx_qread (N : Nat) (f : List UInt8 → Int → Option (Int × Int × List V × List UInt8 × Bool)) : Cx := { T := T, isPure := tabP [⟨66, e_qread f⟩], pureK := fun g ds K => tabK [⟨66, e_qread f⟩] g ds K, memK := fun g dst ds m K => tabMK [] g dst ds m K, meth := tabM [], keep := fun r => match r with | 16 => [0, 1, 4, 7, 8, 9] | _ => [], keepX := fun r => match r with | 16 => [0, 4, 5, 6, 7] | _ => [], loopT := fun r ds m K => match r with | 16 => l_qread_16 N f ds m K | _ => none, jumps := 9 }
theorem F_qread_16_ok {R : Type} (N : Nat) (f : List UInt8 → Int → Option (Int × Int × List V × List UInt8 × Bool)) (n1 : Int) (n2 : Int) (n4 : Int) (n5 : Int) (vs6 : List V) (n7 : Int) (n8 : Int) (l0 : List UInt8) (n3 : Int) (vs9 : List V) (L : List D → Mem → Option R) (K : Ex → List D → Mem → Option R) :
    roundK (fun st K => codeK (cx_qread N f) (loopN Tryd.f66 0) st K) 75 [0, 1, 4, 7, 8, 9] [0, 4, 5, 6, 7] L [(.v (.bytes l0) .no), (.v (.int .i64 n1) .no), (.ptr 0 4 0), (.ptr 0 7 0), (.v (.int .i64 n2) .no), (.v (.int .i64 n3) .no)] [[(4, ⟨24, [(.v (.int .i64 n4) .no), (.v (.int .i64 n5) .no), (.v (.sl 24 vs6) (.own (.slot 0) 24))]⟩), (7, ⟨24, [(.v (.int .i64 n7) .no), (.v (.int .i64 n8) .no), (.v (.sl 24 vs9) (.own (.slot 0) 24))]⟩)]] K = F_qread_16 N f n1 n2 n4 n5 vs6 n7 n8 (fun l0 n3 vs9 => L [(.v (.bytes l0) .no), (.v (.int .i64 n1) .no), (.ptr 0 4 0), (.ptr 0 7 0), (.v (.int .i64 n2) .no), (.v (.int .i64 n3) .no)] [[(4, ⟨24, [(.v (.int .i64 n4) .no), (.v (.int .i64 n5) .no), (.v (.sl 24 vs6) (.own (.slot 0) 24))]⟩), (7, ⟨24, [(.v (.int .i64 n7) .no), (.v (.int .i64 n8) .no), (.v (.sl 24 vs9) (.own (.slot 0) 24))]⟩)]]) (fun a0 a1 a2 a5 a8 => K .ret [(.v (.bytes a0) .no), (.ptr 0 4 0), (.v (.bytes a1) (.own (.slot 5) 5)), (.v (.bool a2) .no), (.ptr 0 7 0)] [[(4, ⟨24, [(.v (.int .i64 n7) .no), (.v (.int .i64 n8) .no), (.v (.sl 24 a5) .no)]⟩), (7, ⟨24, [(.v (.int .i64 n7) .no), (.v (.int .i64 n8) .no), (.v (.sl 24 a8) (.own (.slot 0) 24))]⟩)]]) (fun a0 a6 => K (.exit 0) [(.v (.bytes a0) .no), (.ptr 0 4 0), .any, .any, (.ptr 0 7 0)] [[(4, ⟨24, [(.v (.int .i64 n4) .no), (.v (.int .i64 n5) .no), (.v (.sl 24 vs6) (.own (.slot 0) 24))]⟩), (7, ⟨24, [(.v (.int .i64 n7) .no), (.v (.int .i64 n8) .no), (.v (.sl 24 a6) (.own (.slot 0) 24))]⟩)]]) l0 n3 vs9 := by
  kernel_rfl
theorem S_qread_16_ok {R : Type} (N : Nat) (f : List UInt8 → Int → Option (Int × Int × List V × List UInt8 × Bool)) (n1 : Int) (n2 : Int) (n4 : Int) (n5 : Int) (vs6 : List V) (n7 : Int) (n8 : Int) (K : Ex → List D → Mem → Option R) : ∀ (t : Nat) (l0 : List UInt8) (n3 : Int) (vs9 : List V),
    loopK (fun st K => codeK (cx_qread N f) (loopN Tryd.f66 0) st K) 75 [0, 1, 4, 7, 8, 9] [0, 4, 5, 6, 7] t [(.v (.bytes l0) .no), (.v (.int .i64 n1) .no), (.ptr 0 4 0), (.ptr 0 7 0), (.v (.int .i64 n2) .no), (.v (.int .i64 n3) .no)] [[(4, ⟨24, [(.v (.int .i64 n4) .no), (.v (.int .i64 n5) .no), (.v (.sl 24 vs6) (.own (.slot 0) 24))]⟩), (7, ⟨24, [(.v (.int .i64 n7) .no), (.v (.int .i64 n8) .no), (.v (.sl 24 vs9) (.own (.slot 0) 24))]⟩)]] K = S_qread_16 N f n1 n2 n4 n5 vs6 n7 n8 t l0 n3 vs9 (fun a0 a1 a2 a5 a8 => K .ret [(.v (.bytes a0) .no), (.ptr 0 4 0), (.v (.bytes a1) (.own (.slot 5) 5)), (.v (.bool a2) .no), (.ptr 0 7 0)] [[(4, ⟨24, [(.v (.int .i64 n7) .no), (.v (.int .i64 n8) .no), (.v (.sl 24 a5) .no)]⟩), (7, ⟨24, [(.v (.int .i64 n7) .no), (.v (.int .i64 n8) .no), (.v (.sl 24 a8) (.own (.slot 0) 24))]⟩)]]) (fun a0 a6 => K (.exit 0) [(.v (.bytes a0) .no), (.ptr 0 4 0), .any, .any, (.ptr 0 7 0)] [[(4, ⟨24, [(.v (.int .i64 n4) .no), (.v (.int .i64 n5) .no), (.v (.sl 24 vs6) (.own (.slot 0) 24))]⟩), (7, ⟨24, [(.v (.int .i64 n7) .no), (.v (.int .i64 n8) .no), (.v (.sl 24 a6) (.own (.slot 0) 24))]⟩)]])
  | 0, l0, n3, vs9 => rfl
  | t + 1, l0, n3, vs9 => (F_qread_16_ok N f n1 n2 n4 n5 vs6 n7 n8 l0 n3 vs9 _ K).trans (congrArg (fun L => F_qread_16 N f n1 n2 n4 n5 vs6 n7 n8 L (fun a0 a1 a2 a5 a8 => K .ret [(.v (.bytes a0) .no), (.ptr 0 4 0), (.v (.bytes a1) (.own (.slot 5) 5)), (.v (.bool a2) .no), (.ptr 0 7 0)] [[(4, ⟨24, [(.v (.int .i64 n7) .no), (.v (.int .i64 n8) .no), (.v (.sl 24 a5) .no)]⟩), (7, ⟨24, [(.v (.int .i64 n7) .no), (.v (.int .i64 n8) .no), (.v (.sl 24 a8) (.own (.slot 0) 24))]⟩)]]) (fun a0 a6 => K (.exit 0) [(.v (.bytes a0) .no), (.ptr 0 4 0), .any, .any, (.ptr 0 7 0)] [[(4, ⟨24, [(.v (.int .i64 n4) .no), (.v (.int .i64 n5) .no), (.v (.sl 24 vs6) (.own (.slot 0) 24))]⟩), (7, ⟨24, [(.v (.int .i64 n7) .no), (.v (.int .i64 n8) .no), (.v (.sl 24 a6) (.own (.slot 0) 24))]⟩)]]) l0 n3 vs9) (funext fun l0 => funext fun n3 => funext fun vs9 => S_qread_16_ok N f n1 n2 n4 n5 vs6 n7 n8 K t l0 n3 vs9))
theorem B_qread_ok (N : Nat) (f : List UInt8 → Int → Option (Int × Int × List V × List UInt8 × Bool)) (x0 : List UInt8) (x1 : Int) : bodyK (cx_qread N f) Tryd.f66 [.v (.bytes x0) .no, .v (.int .i64 x1) .no] [] r_qread = B_qread N f x0 x1 := by
  kernel_rfl
theorem go_qread : Goes Tryd.prog 66 := goes_of Tryd.func66 (by kernel_rfl) (c := bodyOf Tryd.f66) (by kernel_rfl)
theorem eo_qread (s : List UInt8 → Int → Option (Int × Int × List V × List UInt8 × Bool)) (hs : ∀ (x0 : List UInt8) (x1 : Int) (r0 : Int) (r1 : Int) (r2 : List V) (r3 : List UInt8) (r4 : Bool), s x0 x1 = some (r0, r1, r2, r3, r4) → PureRet Tryd.prog T 66 [.v (.bytes x0) .no, .v (.int .i64 x1) .no] [.agg [.v (.int .i64 r0) .no, .v (.int .i64 r1) .no, .v (.sl 24 r2) .no], .v (.bytes r3) .no, .v (.bool r4) .no]) : EntOK Tryd.prog T ⟨66, e_qread s⟩ := by
  refine ⟨go_qread, fun R ds K r h => ?_, fun R ds K => ?_⟩
  · simp only [e_qread] at h
    split at h
    · obtain ⟨r0, r1, r2, r3, r4, h1, h2⟩ := bnd5_some h
      exact ⟨_, h2, hs _ _ _ _ _ _ _ h1⟩
    · cases h
  · simp only [e_qread]
    split
    · rw [bnd5_b]; rfl
    · rfl
theorem co_qread (N : Nat) (f : List UInt8 → Int → Option (Int × Int × List V × List UInt8 × Bool)) (hf : ∀ (x0 : List UInt8) (x1 : Int) (r0 : Int) (r1 : Int) (r2 : List V) (r3 : List UInt8) (r4 : Bool), f x0 x1 = some (r0, r1, r2, r3, r4) → PureRet Tryd.prog T 66 [.v (.bytes x0) .no, .v (.int .i64 x1) .no] [.agg [.v (.int .i64 r0) .no, .v (.int .i64 r1) .no, .v (.sl 24 r2) .no], .v (.bytes r3) .no, .v (.bool r4) .no]) : CxOK Tryd.prog (cx_qread N f) :=
  cxOK_of2 (es := [⟨66, e_qread f⟩]) (me := []) (ms := []) T_ok ⟨eo_qread f hf, trivial⟩ trivial trivial rfl (fun _ _ _ _ => rfl) (fun _ _ _ _ _ _ => rfl) rfl
theorem lk_qread_16 (N : Nat) (f : List UInt8 → Int → Option (Int × Int × List V × List UInt8 × Bool)) : LoopOK (cx_qread N f) 75 (loopN Tryd.f66 0) := by
  refine loopOK_of (rid := 16) (by kernel_rfl) rfl rfl fun R ds m K r h => ?_
  have h : l_qread_16 N f ds m K = some r := h
  unfold l_qread_16 at h
  split at h
  · exact ⟨N, Eq.trans (S_qread_16_ok ..) h⟩
  · cases h
theorem lo_qread (N : Nat) (f : List UInt8 → Int → Option (Int × Int × List V × List UInt8 × Bool)) : LoopsOK (cx_qread N f) Tryd.f66.ntmps (bodyOf Tryd.f66) :=
  loopsOK_of (k := 1) (by kernel_rfl) ⟨trivial, lk_qread_16 N f⟩
theorem p_qread (N : Nat) : ∀ (M : Nat) (x0 : List UInt8) (x1 : Int) (r0 : Int) (r1 : Int) (r2 : List V) (r3 : List UInt8) (r4 : Bool), s_qread N M x0 x1 = some (r0, r1, r2, r3, r4) → PureRet Tryd.prog T 66 [.v (.bytes x0) .no, .v (.int .i64 x1) .no] [.agg [.v (.int .i64 r0) .no, .v (.int .i64 r1) .no, .v (.sl 24 r2) .no], .v (.bytes r3) .no, .v (.bool r4) .no]
  | 0, _, _, _, _, _, _, _, h => by cases h
  | M + 1, x0, x1, r0, r1, r2, r3, r4, h => pure_of (cx := cx_qread N (s_qread N M)) (by kernel_rfl) (co_qread N (s_qread N M) (p_qread N M)) Tryd.func66 (by kernel_rfl) (by kernel_rfl) (lo_qread N (s_qread N M)) rfl rfl rfl (rf := r_qread) ((B_qread_ok N (s_qread N M) x0 x1).trans h) (fun rs' m h => by
    unfold r_qread at h
    split at h
    · cases h; exact ⟨rfl, rfl⟩
    · cases h)
noncomputable def e_qDecode {R : Type} (s : List UInt8 → Option (List V × Int)) (ds : List D) (K : List D → Option R) : Option R :=
  match ds with
  | [.v (.bytes x0) .no] => bnd2 (s x0) fun r0 r1 => K [.v (.sl 53 r0) .no, .v (.int .i64 r1) .no]
  | _ => none
noncomputable def r_qDecode (rs : List D) (_ : Mem) : Option (List V × Int) :=
  match rs with
  | [.v (.sl 53 r0) _, .v (.int .i64 r1) _] => some (r0, r1)
  | _ => none
noncomputable def F_qDecode_6 {R : Type} (N : Nat) (l0 : List UInt8) (vs1 : List V) (Lq : List V → Int → Option R) (K0 : List V → Int → List V → Option R) (K1 : List V → Option R) (vs2 : List V) (n3 : Int) : Option R :=
  br (decide (n3 < (↑vs1.length : Int)))
  (br (decide (0 ≤ n3) && decide (n3 < (↑vs1.length : Int)))
    (at? vs1 n3.toNat fun x0 =>
      x0.unAgg fun l1 =>
        unCons l1 fun x2 l3 =>
          V.unInt IntKind.i64 x2 fun n4 =>
            unCons l3 fun x5 l6 =>
              x5.unBytes fun l7 =>
                unCons l6 fun x8 l9 =>
                  V.unSl 67 x8 fun l10 =>
                    unNil l9
                      (br (!decide (n4 = 128)) (K0 [] 4 vs2)
                        (br (decide (0 ≤ n3) && decide (n3 < (↑vs1.length : Int)))
                          (at? vs1 n3.toNat fun x11 =>
                            x11.unAgg fun l12 =>
                              unCons l12 fun x13 l14 =>
                                V.unInt IntKind.i64 x13 fun n15 =>
                                  unCons l14 fun x16 l17 =>
                                    x16.unBytes fun l18 =>
                                      unCons l17 fun x19 l20 =>
                                        V.unSl 67 x19 fun l21 =>
                                          unNil l20
                                            (br (decide ((↑l18.length : Int) < 2)) (K0 [] 4 vs2)
                                              (br (decide (0 ≤ n3) && decide (n3 < (↑vs1.length : Int)))
                                                (at? vs1 n3.toNat fun x22 =>
                                                  x22.unAgg fun l23 =>
                                                    unCons l23 fun x24 l25 =>
                                                      V.unInt IntKind.i64 x24 fun n26 =>
                                                        unCons l25 fun x27 l28 =>
                                                          x27.unBytes fun l29 =>
                                                            unCons l28 fun x30 l31 =>
                                                              V.unSl 67 x30 fun l32 =>
                                                                unNil l31
                                                                  (br (decide (1 ≤ (↑l29.length : Int)))
                                                                    (bnd5 (s_qread N N (List.drop 1 l29) 16) fun n33 n34 l35 l36 b37 =>
                                                                      br (!b37) (K0 [] 4 vs2)
                                                                        (br (decide (0 < (↑l36.length : Int))) (K0 [] 4 vs2)
                                                                          (br (decide (0 ≤ n3) && decide (n3 < (↑vs1.length : Int)))
                                                                            (at? vs1 n3.toNat fun x38 =>
                                                                              x38.unAgg fun l39 =>
                                                                                unCons l39 fun x40 l41 =>
                                                                                  V.unInt IntKind.i64 x40 fun n42 =>
                                                                                    unCons l41 fun x43 l44 =>
                                                                                      x43.unBytes fun l45 =>
                                                                                        unCons l44 fun x46 l47 =>
                                                                                          V.unSl 67 x46 fun l48 =>
                                                                                            unNil l47
                                                                                              (br (decide (0 < (↑l45.length : Int)))
                                                                                                (at? l45 0 fun u49 =>
                                                                                                  br
                                                                                                    (decide
                                                                                                      ((vs2.length +
                                                                                                            [V.agg
                                                                                                                  [V.int IntKind.i64 (IntKind.i64.wrap (↑u49.toNat : Int)), V.int IntKind.i64 n33, V.int IntKind.i64 n34,
                                                                                                                    V.sl 24 l35]].length) *
                                                                                                          48 ≤
                                                                                                        140737488355328))
                                                                                                    (Lq (vs2 ++ [V.agg [V.int IntKind.i64 (IntKind.i64.wrap (↑u49.toNat : Int)), V.int IntKind.i64 n33, V.int IntKind.i64 n34, V.sl 24 l35]])
                                                                                                      (IntKind.i64.wrap (n3 + 1)))
                                                                                                    none)
                                                                                                none))
                                                                            none)))
                                                                    none))
                                                none)))
                          none)))
    none)
  (K1 vs2)
noncomputable def S_qDecode_6 {R : Type} (N : Nat) (l0 : List UInt8) (vs1 : List V) : Nat → List V → Int → (List V → Int → List V → Option R) → (List V → Option R) → Option R
  | 0, _, _, _, _ => none
  | t + 1, vs2, n3, K0, K1 => F_qDecode_6 N l0 vs1 (fun vs2 n3 => S_qDecode_6 N l0 vs1 t vs2 n3 K0 K1) K0 K1 vs2 n3
noncomputable def l_qDecode_6 {R : Type} (N : Nat) (ds : List D) (m : Mem) (K : Ex → List D → Mem → Option R) : Option R :=
  match ds, m with
  | [(.v (.bytes l0) .no), (.v (.sl 67 vs1) .no), (.v (.sl 53 vs2) (.own (.slot 6) 53)), (.v (.int .i64 n3) .no)], [[]] => S_qDecode_6 N l0 vs1 N vs2 n3 (fun a1 a2 a3 => K .ret [(.v (.bytes l0) .no), (.v (.sl 53 a1) (.own (.slot 2) 53)), (.v (.int .i64 a2) .no), (.v (.sl 53 a3) (.own (.slot 6) 53))] [[]]) (fun a1 => K (.exit 0) [(.v (.bytes l0) .no), .any, .any, (.v (.sl 53 a1) (.own (.slot 6) 53))] [[]])
  | _, _ => none
noncomputable def s_qDecode (N : Nat) (x0 : List UInt8) : Option (List V × Int) :=
  bnd2 (s_rDecode N x0) fun l0 n1 =>
  br (!decide (n1 = 0)) (some ([], n1))
    (S_qDecode_6 N x0 l0 N [] 0 (fun l2 n3 l4 => some (l2, n3)) fun l5 =>
      bnd2 (s_qEncode N l5) fun l6 n7 => br (!decide (n7 = 0)) (some ([], 4)) (br (decide (l6.length ≤ 9223372036854775807)) (br (decide (x0.length ≤ 9223372036854775807)) (br (!decide (l6 = x0)) (some ([], 4)) (some (l5, 0))) none) none))
noncomputable def cx_qDecode (N : Nat) : Cx := { T := T, isPure := tabP [⟨65, e_rDecode (s_rDecode N)⟩, ⟨66, e_qread (s_qread N N)⟩, ⟨26, e_qEncode (s_qEncode N)⟩], pureK := fun g ds K => tabK [⟨65, e_rDecode (s_rDecode N)⟩, ⟨66, e_qread (s_qread N N)⟩, ⟨26, e_qEncode (s_qEncode N)⟩] g ds K, memK := fun g dst ds m K => tabMK [] g dst ds m K, meth := tabM [], keep := fun r => match r with | 6 => [0, 4, 6, 7] | _ => [], keepX := fun r => match r with | 6 => [0, 2, 3, 6] | _ => [], loopT := fun r ds m K => match r with | 6 => l_qDecode_6 N ds m K | _ => none, jumps := 9 }
theorem F_qDecode_6_ok {R : Type} (N : Nat) (l0 : List UInt8) (vs1 : List V) (vs2 : List V) (n3 : Int) (L : List D → Mem → Option R) (K : Ex → List D → Mem → Option R) :
    roundK (fun st K => codeK (cx_qDecode N) (loopN Tryd.f37 0) st K) 87 [0, 4, 6, 7] [0, 2, 3, 6] L [(.v (.bytes l0) .no), (.v (.sl 67 vs1) .no), (.v (.sl 53 vs2) (.own (.slot 6) 53)), (.v (.int .i64 n3) .no)] [[]] K = F_qDecode_6 N l0 vs1 (fun vs2 n3 => L [(.v (.bytes l0) .no), (.v (.sl 67 vs1) .no), (.v (.sl 53 vs2) (.own (.slot 6) 53)), (.v (.int .i64 n3) .no)] [[]]) (fun a1 a2 a3 => K .ret [(.v (.bytes l0) .no), (.v (.sl 53 a1) (.own (.slot 2) 53)), (.v (.int .i64 a2) .no), (.v (.sl 53 a3) (.own (.slot 6) 53))] [[]]) (fun a1 => K (.exit 0) [(.v (.bytes l0) .no), .any, .any, (.v (.sl 53 a1) (.own (.slot 6) 53))] [[]]) vs2 n3 := by
  kernel_rfl
theorem S_qDecode_6_ok {R : Type} (N : Nat) (l0 : List UInt8) (vs1 : List V) (K : Ex → List D → Mem → Option R) : ∀ (t : Nat) (vs2 : List V) (n3 : Int),
    loopK (fun st K => codeK (cx_qDecode N) (loopN Tryd.f37 0) st K) 87 [0, 4, 6, 7] [0, 2, 3, 6] t [(.v (.bytes l0) .no), (.v (.sl 67 vs1) .no), (.v (.sl 53 vs2) (.own (.slot 6) 53)), (.v (.int .i64 n3) .no)] [[]] K = S_qDecode_6 N l0 vs1 t vs2 n3 (fun a1 a2 a3 => K .ret [(.v (.bytes l0) .no), (.v (.sl 53 a1) (.own (.slot 2) 53)), (.v (.int .i64 a2) .no), (.v (.sl 53 a3) (.own (.slot 6) 53))] [[]]) (fun a1 => K (.exit 0) [(.v (.bytes l0) .no), .any, .any, (.v (.sl 53 a1) (.own (.slot 6) 53))] [[]])
  | 0, vs2, n3 => rfl
  | t + 1, vs2, n3 => (F_qDecode_6_ok N l0 vs1 vs2 n3 _ K).trans (congrArg (fun L => F_qDecode_6 N l0 vs1 L (fun a1 a2 a3 => K .ret [(.v (.bytes l0) .no), (.v (.sl 53 a1) (.own (.slot 2) 53)), (.v (.int .i64 a2) .no), (.v (.sl 53 a3) (.own (.slot 6) 53))] [[]]) (fun a1 => K (.exit 0) [(.v (.bytes l0) .no), .any, .any, (.v (.sl 53 a1) (.own (.slot 6) 53))] [[]]) vs2 n3) (funext fun vs2 => funext fun n3 => S_qDecode_6_ok N l0 vs1 K t vs2 n3))
theorem s_qDecode_ok (N : Nat) (x0 : List UInt8) : bodyK (cx_qDecode N) Tryd.f37 [.v (.bytes x0) .no] [] r_qDecode = s_qDecode N x0 := by
  kernel_rfl
theorem go_qDecode : Goes Tryd.prog 37 := goes_of Tryd.func37 (by kernel_rfl) (c := bodyOf Tryd.f37) (by kernel_rfl)
theorem eo_qDecode (s : List UInt8 → Option (List V × Int)) (hs : ∀ (x0 : List UInt8) (r0 : List V) (r1 : Int), s x0 = some (r0, r1) → PureRet Tryd.prog T 37 [.v (.bytes x0) .no] [.v (.sl 53 r0) .no, .v (.int .i64 r1) .no]) : EntOK Tryd.prog T ⟨37, e_qDecode s⟩ := by
  refine ⟨go_qDecode, fun R ds K r h => ?_, fun R ds K => ?_⟩
  · simp only [e_qDecode] at h
    split at h
    · obtain ⟨r0, r1, h1, h2⟩ := bnd2_some h
      exact ⟨_, h2, hs _ _ _ h1⟩
    · cases h
  · simp only [e_qDecode]
    split
    · rw [bnd2_b]; rfl
    · rfl
theorem co_qDecode (N : Nat) : CxOK Tryd.prog (cx_qDecode N) :=
  cxOK_of2 (es := [⟨65, e_rDecode (s_rDecode N)⟩, ⟨66, e_qread (s_qread N N)⟩, ⟨26, e_qEncode (s_qEncode N)⟩]) (me := []) (ms := []) T_ok ⟨eo_rDecode _ (p_rDecode N), eo_qread _ (p_qread N N), eo_qEncode _ (p_qEncode N), trivial⟩ trivial trivial rfl (fun _ _ _ _ => rfl) (fun _ _ _ _ _ _ => rfl) rfl
theorem lk_qDecode_6 (N : Nat) : LoopOK (cx_qDecode N) 87 (loopN Tryd.f37 0) := by
  refine loopOK_of (rid := 6) (by kernel_rfl) rfl rfl fun R ds m K r h => ?_
  have h : l_qDecode_6 N ds m K = some r := h
  unfold l_qDecode_6 at h
  split at h
  · exact ⟨N, Eq.trans (S_qDecode_6_ok ..) h⟩
  · cases h
theorem lo_qDecode (N : Nat) : LoopsOK (cx_qDecode N) Tryd.f37.ntmps (bodyOf Tryd.f37) :=
  loopsOK_of (k := 1) (by kernel_rfl) ⟨trivial, lk_qDecode_6 N⟩
theorem p_qDecode (N : Nat) (x0 : List UInt8) (r0 : List V) (r1 : Int) (h : s_qDecode N x0 = some (r0, r1)) : PureRet Tryd.prog T 37 [.v (.bytes x0) .no] [.v (.sl 53 r0) .no, .v (.int .i64 r1) .no] :=
  pure_of (cx := cx_qDecode N) (by kernel_rfl) (co_qDecode N) Tryd.func37 (by kernel_rfl) (by kernel_rfl) (lo_qDecode N) rfl rfl rfl (rf := r_qDecode) ((s_qDecode_ok N x0).trans h) (fun rs' m h => by
    unfold r_qDecode at h
    split at h
    · cases h; exact ⟨rfl, rfl⟩
    · cases h)
noncomputable def e_qSameCond {R : Type} (s : Int → Int → List V → Int → Int → List V → Option (Bool)) (ds : List D) (K : List D → Option R) : Option R :=
  match ds with
  | [.agg [.v (.int .i64 x0) .no, .v (.int .i64 x1) .no, .v (.sl 24 x2) .no], .agg [.v (.int .i64 x3) .no, .v (.int .i64 x4) .no, .v (.sl 24 x5) .no]] => bnd1 (s x0 x1 x2 x3 x4 x5) fun r0 => K [.v (.bool r0) .no]
  | _ => none
noncomputable def r_qSameCond (rs : List D) (_ : Mem) : Option (Bool) :=
  match rs with
  | [.v (.bool r0) _] => some (r0)
  | _ => none
noncomputable def F_qSameCond_4 {R : Type} (N : Nat) (f : Int → Int → List V → Int → Int → List V → Option (Bool)) (n1 : Int) (n2 : Int) (vs3 : List V) (n4 : Int) (n5 : Int) (vs6 : List V) (Lq : Int → Option R) (K0 : Bool → Option R) (K1 : Option R) (n0 : Int) : Option R :=
  br (decide (n0 < (↑vs3.length : Int)))
  (br (decide (0 ≤ n0) && decide (n0 < (↑vs3.length : Int)))
    (at? vs3 n0.toNat fun x0 =>
      x0.unAgg fun l1 =>
        unCons l1 fun x2 l3 =>
          V.unInt IntKind.i64 x2 fun n4 =>
            unCons l3 fun x5 l6 =>
              V.unInt IntKind.i64 x5 fun n7 =>
                unCons l6 fun x8 l9 =>
                  V.unSl 24 x8 fun l10 =>
                    unNil l9
                      (br (decide (0 ≤ n0) && decide (n0 < (↑vs6.length : Int)))
                        (at? vs6 n0.toNat fun x11 =>
                          x11.unAgg fun l12 =>
                            unCons l12 fun x13 l14 =>
                              V.unInt IntKind.i64 x13 fun n15 =>
                                unCons l14 fun x16 l17 =>
                                  V.unInt IntKind.i64 x16 fun n18 => unCons l17 fun x19 l20 => V.unSl 24 x19 fun l21 => unNil l20 (bnd1 (f n4 n7 l10 n15 n18 l21) fun b22 => br (!b22) (K0 false) (Lq (IntKind.i64.wrap (n0 + 1)))))
                        none))
    none)
  K1
noncomputable def S_qSameCond_4 {R : Type} (N : Nat) (f : Int → Int → List V → Int → Int → List V → Option (Bool)) (n1 : Int) (n2 : Int) (vs3 : List V) (n4 : Int) (n5 : Int) (vs6 : List V) : Nat → Int → (Bool → Option R) → (Option R) → Option R
  | 0, _, _, _ => none
  | t + 1, n0, K0, K1 => F_qSameCond_4 N f n1 n2 vs3 n4 n5 vs6 (fun n0 => S_qSameCond_4 N f n1 n2 vs3 n4 n5 vs6 t n0 K0 K1) K0 K1 n0
noncomputable def l_qSameCond_4 {R : Type} (N : Nat) (f : Int → Int → List V → Int → Int → List V → Option (Bool)) (ds : List D) (m : Mem) (K : Ex → List D → Mem → Option R) : Option R :=
  match ds, m with
  | [(.ptr 0 2 0), (.ptr 0 3 0), (.v (.int .i64 n0) .no)], [[(2, ⟨24, [(.v (.int .i64 n1) .no), (.v (.int .i64 n2) .no), (.v (.sl 24 vs3) .no)]⟩), (3, ⟨24, [(.v (.int .i64 n4) .no), (.v (.int .i64 n5) .no), (.v (.sl 24 vs6) .no)]⟩)]] => S_qSameCond_4 N f n1 n2 vs3 n4 n5 vs6 N n0 (fun a0 => K .ret [(.ptr 0 2 0), (.ptr 0 3 0), (.v (.bool a0) .no)] [[(2, ⟨24, [(.v (.int .i64 n1) .no), (.v (.int .i64 n2) .no), (.v (.sl 24 vs3) .no)]⟩), (3, ⟨24, [(.v (.int .i64 n4) .no), (.v (.int .i64 n5) .no), (.v (.sl 24 vs6) .no)]⟩)]]) (K (.exit 0) [(.ptr 0 2 0), (.ptr 0 3 0), .any] [[(2, ⟨24, [(.v (.int .i64 n1) .no), (.v (.int .i64 n2) .no), (.v (.sl 24 vs3) .no)]⟩), (3, ⟨24, [(.v (.int .i64 n4) .no), (.v (.int .i64 n5) .no), (.v (.sl 24 vs6) .no)]⟩)]])
  | _, _ => none
noncomputable def B_qSameCond (N : Nat) (f : Int → Int → List V → Int → Int → List V → Option (Bool)) (x0 : Int) (x1 : Int) (x2 : List V) (x3 : Int) (x4 : Int) (x5 : List V) : Option (Bool) :=
  br (!decide (x0 = x3)) (some false) (br (!decide (x1 = x4)) (some false) (br (!decide ((↑x2.length : Int) = (↑x5.length : Int))) (some false) (S_qSameCond_4 N f x0 x1 x2 x3 x4 x5 N 0 (fun b0 => some b0) (some true))))
noncomputable def s_qSameCond (N : Nat) : Nat → Int → Int → List V → Int → Int → List V → Option (Bool)
  | 0, _, _, _, _, _, _ => none
  | n + 1, x0, x1, x2, x3, x4, x5 => B_qSameCond N (s_qSameCond N n) x0 x1 x2 x3 x4 x5
noncomputable def cx_qSameCond (N : Nat) (f : Int → Int → List V → Int → Int → List V → Option (Bool)) : Cx := { T := T, isPure := tabP [⟨29, e_qSameCond f⟩], pureK := fun g ds K => tabK [⟨29, e_qSameCond f⟩] g ds K, memK := fun g dst ds m K => tabMK [] g dst ds m K, meth := tabM [], keep := fun r => match r with | 4 => [2, 3, 5] | _ => [], keepX := fun r => match r with | 4 => [2, 3, 4] | _ => [], loopT := fun r ds m K => match r with | 4 => l_qSameCond_4 N f ds m K | _ => none, jumps := 9 }
theorem F_qSameCond_4_ok {R : Type} (N : Nat) (f : Int → Int → List V → Int → Int → List V → Option (Bool)) (n1 : Int) (n2 : Int) (vs3 : List V) (n4 : Int) (n5 : Int) (vs6 : List V) (n0 : Int) (L : List D → Mem → Option R) (K : Ex → List D → Mem → Option R) :
    roundK (fun st K => codeK (cx_qSameCond N f) (loopN Tryd.f29 0) st K) 46 [2, 3, 5] [2, 3, 4] L [(.ptr 0 2 0), (.ptr 0 3 0), (.v (.int .i64 n0) .no)] [[(2, ⟨24, [(.v (.int .i64 n1) .no), (.v (.int .i64 n2) .no), (.v (.sl 24 vs3) .no)]⟩), (3, ⟨24, [(.v (.int .i64 n4) .no), (.v (.int .i64 n5) .no), (.v (.sl 24 vs6) .no)]⟩)]] K = F_qSameCond_4 N f n1 n2 vs3 n4 n5 vs6 (fun n0 => L [(.ptr 0 2 0), (.ptr 0 3 0), (.v (.int .i64 n0) .no)] [[(2, ⟨24, [(.v (.int .i64 n1) .no), (.v (.int .i64 n2) .no), (.v (.sl 24 vs3) .no)]⟩), (3, ⟨24, [(.v (.int .i64 n4) .no), (.v (.int .i64 n5) .no), (.v (.sl 24 vs6) .no)]⟩)]]) (fun a0 => K .ret [(.ptr 0 2 0), (.ptr 0 3 0), (.v (.bool a0) .no)] [[(2, ⟨24, [(.v (.int .i64 n1) .no), (.v (.int .i64 n2) .no), (.v (.sl 24 vs3) .no)]⟩), (3, ⟨24, [(.v (.int .i64 n4) .no), (.v (.int .i64 n5) .no), (.v (.sl 24 vs6) .no)]⟩)]]) (K (.exit 0) [(.ptr 0 2 0), (.ptr 0 3 0), .any] [[(2, ⟨24, [(.v (.int .i64 n1) .no), (.v (.int .i64 n2) .no), (.v (.sl 24 vs3) .no)]⟩), (3, ⟨24, [(.v (.int .i64 n4) .no), (.v (.int .i64 n5) .no), (.v (.sl 24 vs6) .no)]⟩)]]) n0 := by
  kernel_rfl
theorem S_qSameCond_4_ok {R : Type} (N : Nat) (f : Int → Int → List V → Int → Int → List V → Option (Bool)) (n1 : Int) (n2 : Int) (vs3 : List V) (n4 : Int) (n5 : Int) (vs6 : List V) (K : Ex → List D → Mem → Option R) : ∀ (t : Nat) (n0 : Int),
    loopK (fun st K => codeK (cx_qSameCond N f) (loopN Tryd.f29 0) st K) 46 [2, 3, 5] [2, 3, 4] t [(.ptr 0 2 0), (.ptr 0 3 0), (.v (.int .i64 n0) .no)] [[(2, ⟨24, [(.v (.int .i64 n1) .no), (.v (.int .i64 n2) .no), (.v (.sl 24 vs3) .no)]⟩), (3, ⟨24, [(.v (.int .i64 n4) .no), (.v (.int .i64 n5) .no), (.v (.sl 24 vs6) .no)]⟩)]] K = S_qSameCond_4 N f n1 n2 vs3 n4 n5 vs6 t n0 (fun a0 => K .ret [(.ptr 0 2 0), (.ptr 0 3 0), (.v (.bool a0) .no)] [[(2, ⟨24, [(.v (.int .i64 n1) .no), (.v (.int .i64 n2) .no), (.v (.sl 24 vs3) .no)]⟩), (3, ⟨24, [(.v (.int .i64 n4) .no), (.v (.int .i64 n5) .no), (.v (.sl 24 vs6) .no)]⟩)]]) (K (.exit 0) [(.ptr 0 2 0), (.ptr 0 3 0), .any] [[(2, ⟨24, [(.v (.int .i64 n1) .no), (.v (.int .i64 n2) .no), (.v (.sl 24 vs3) .no)]⟩), (3, ⟨24, [(.v (.int .i64 n4) .no), (.v (.int .i64 n5) .no), (.v (.sl 24 vs6) .no)]⟩)]])
  | 0, n0 => rfl
  | t + 1, n0 => (F_qSameCond_4_ok N f n1 n2 vs3 n4 n5 vs6 n0 _ K).trans (congrArg (fun L => F_qSameCond_4 N f n1 n2 vs3 n4 n5 vs6 L (fun a0 => K .ret [(.ptr 0 2 0), (.ptr 0 3 0), (.v (.bool a0) .no)] [[(2, ⟨24, [(.v (.int .i64 n1) .no), (.v (.int .i64 n2) .no), (.v (.sl 24 vs3) .no)]⟩), (3, ⟨24, [(.v (.int .i64 n4) .no), (.v (.int .i64 n5) .no), (.v (.sl 24 vs6) .no)]⟩)]]) (K (.exit 0) [(.ptr 0 2 0), (.ptr 0 3 0), .any] [[(2, ⟨24, [(.v (.int .i64 n1) .no), (.v (.int .i64 n2) .no), (.v (.sl 24 vs3) .no)]⟩), (3, ⟨24, [(.v (.int .i64 n4) .no), (.v (.int .i64 n5) .no), (.v (.sl 24 vs6) .no)]⟩)]]) n0) (funext fun n0 => S_qSameCond_4_ok N f n1 n2 vs3 n4 n5 vs6 K t n0))
theorem B_qSameCond_ok (N : Nat) (f : Int → Int → List V → Int → Int → List V → Option (Bool)) (x0 : Int) (x1 : Int) (x2 : List V) (x3 : Int) (x4 : Int) (x5 : List V) : bodyK (cx_qSameCond N f) Tryd.f29 [.agg [.v (.int .i64 x0) .no, .v (.int .i64 x1) .no, .v (.sl 24 x2) .no], .agg [.v (.int .i64 x3) .no, .v (.int .i64 x4) .no, .v (.sl 24 x5) .no]] [] r_qSameCond = B_qSameCond N f x0 x1 x2 x3 x4 x5 := by
  kernel_rfl
theorem go_qSameCond : Goes Tryd.prog 29 := goes_of Tryd.func29 (by kernel_rfl) (c := bodyOf Tryd.f29) (by kernel_rfl)
theorem eo_qSameCond (s : Int → Int → List V → Int → Int → List V → Option (Bool)) (hs : ∀ (x0 : Int) (x1 : Int) (x2 : List V) (x3 : Int) (x4 : Int) (x5 : List V) (r0 : Bool), s x0 x1 x2 x3 x4 x5 = some r0 → PureRet Tryd.prog T 29 [.agg [.v (.int .i64 x0) .no, .v (.int .i64 x1) .no, .v (.sl 24 x2) .no], .agg [.v (.int .i64 x3) .no, .v (.int .i64 x4) .no, .v (.sl 24 x5) .no]] [.v (.bool r0) .no]) : EntOK Tryd.prog T ⟨29, e_qSameCond s⟩ := by
  refine ⟨go_qSameCond, fun R ds K r h => ?_, fun R ds K => ?_⟩
  · simp only [e_qSameCond] at h
    split at h
    · obtain ⟨r0, h1, h2⟩ := bnd1_some h
      exact ⟨_, h2, hs _ _ _ _ _ _ _ h1⟩
    · cases h
  · simp only [e_qSameCond]
    split
    · rw [bnd1_b]; rfl
    · rfl
theorem co_qSameCond (N : Nat) (f : Int → Int → List V → Int → Int → List V → Option (Bool)) (hf : ∀ (x0 : Int) (x1 : Int) (x2 : List V) (x3 : Int) (x4 : Int) (x5 : List V) (r0 : Bool), f x0 x1 x2 x3 x4 x5 = some r0 → PureRet Tryd.prog T 29 [.agg [.v (.int .i64 x0) .no, .v (.int .i64 x1) .no, .v (.sl 24 x2) .no], .agg [.v (.int .i64 x3) .no, .v (.int .i64 x4) .no, .v (.sl 24 x5) .no]] [.v (.bool r0) .no]) : CxOK Tryd.prog (cx_qSameCond N f) :=
  cxOK_of2 (es := [⟨29, e_qSameCond f⟩]) (me := []) (ms := []) T_ok ⟨eo_qSameCond f hf, trivial⟩ trivial trivial rfl (fun _ _ _ _ => rfl) (fun _ _ _ _ _ _ => rfl) rfl
theorem lk_qSameCond_4 (N : Nat) (f : Int → Int → List V → Int → Int → List V → Option (Bool)) : LoopOK (cx_qSameCond N f) 46 (loopN Tryd.f29 0) := by
  refine loopOK_of (rid := 4) (by kernel_rfl) rfl rfl fun R ds m K r h => ?_
  have h : l_qSameCond_4 N f ds m K = some r := h
  unfold l_qSameCond_4 at h
  split at h
  · exact ⟨N, Eq.trans (S_qSameCond_4_ok ..) h⟩
  · cases h
theorem lo_qSameCond (N : Nat) (f : Int → Int → List V → Int → Int → List V → Option (Bool)) : LoopsOK (cx_qSameCond N f) Tryd.f29.ntmps (bodyOf Tryd.f29) :=
  loopsOK_of (k := 1) (by kernel_rfl) ⟨trivial, lk_qSameCond_4 N f⟩
theorem p_qSameCond (N : Nat) : ∀ (M : Nat) (x0 : Int) (x1 : Int) (x2 : List V) (x3 : Int) (x4 : Int) (x5 : List V) (r0 : Bool), s_qSameCond N M x0 x1 x2 x3 x4 x5 = some r0 → PureRet Tryd.prog T 29 [.agg [.v (.int .i64 x0) .no, .v (.int .i64 x1) .no, .v (.sl 24 x2) .no], .agg [.v (.int .i64 x3) .no, .v (.int .i64 x4) .no, .v (.sl 24 x5) .no]] [.v (.bool r0) .no]
  | 0, _, _, _, _, _, _, _, h => by cases h
  | M + 1, x0, x1, x2, x3, x4, x5, r0, h => pure_of (cx := cx_qSameCond N (s_qSameCond N M)) (by kernel_rfl) (co_qSameCond N (s_qSameCond N M) (p_qSameCond N M)) Tryd.func29 (by kernel_rfl) (by kernel_rfl) (lo_qSameCond N (s_qSameCond N M)) rfl rfl rfl (rf := r_qSameCond) ((B_qSameCond_ok N (s_qSameCond N M) x0 x1 x2 x3 x4 x5).trans h) (fun rs' m h => by
    unfold r_qSameCond at h
    split at h
    · cases h; exact ⟨rfl, rfl⟩
    · cases h)
noncomputable def e_qSame {R : Type} (s : List V → List V → Option (Bool)) (ds : List D) (K : List D → Option R) : Option R :=
  match ds with
  | [.v (.sl 53 x0) .no, .v (.sl 53 x1) .no] => bnd1 (s x0 x1) fun r0 => K [.v (.bool r0) .no]
  | _ => none
noncomputable def r_qSame (rs : List D) (_ : Mem) : Option (Bool) :=
  match rs with
  | [.v (.bool r0) _] => some (r0)
  | _ => none
noncomputable def F_qSame_4 {R : Type} (N : Nat) (vs0 : List V) (vs1 : List V) (Lq : Int → Option R) (K0 : Bool → Option R) (K1 : Option R) (n2 : Int) : Option R :=
  br (decide (n2 < (↑vs0.length : Int)))
  (br (decide (0 ≤ n2) && decide (n2 < (↑vs0.length : Int)))
    (at? vs0 n2.toNat fun x0 =>
      x0.unAgg fun l1 =>
        unCons l1 fun x2 l3 =>
          V.unInt IntKind.i64 x2 fun n4 =>
            unCons l3 fun x5 l6 =>
              V.unInt IntKind.i64 x5 fun n7 =>
                unCons l6 fun x8 l9 =>
                  V.unInt IntKind.i64 x8 fun n10 =>
                    unCons l9 fun x11 l12 =>
                      V.unSl 24 x11 fun l13 =>
                        unNil l12
                          (br (decide (0 ≤ n2) && decide (n2 < (↑vs1.length : Int)))
                            (at? vs1 n2.toNat fun x14 =>
                              x14.unAgg fun l15 =>
                                unCons l15 fun x16 l17 =>
                                  V.unInt IntKind.i64 x16 fun n18 =>
                                    unCons l17 fun x19 l20 =>
                                      V.unInt IntKind.i64 x19 fun n21 =>
                                        unCons l20 fun x22 l23 =>
                                          V.unInt IntKind.i64 x22 fun n24 =>
                                            unCons l23 fun x25 l26 =>
                                              V.unSl 24 x25 fun l27 =>
                                                unNil l26
                                                  (br (!decide (n4 = n18)) (K0 false)
                                                    (br (decide (0 ≤ n2) && decide (n2 < (↑vs0.length : Int)))
                                                      (at? vs0 n2.toNat fun x28 =>
                                                        x28.unAgg fun l29 =>
                                                          unCons l29 fun x30 l31 =>
                                                            V.unInt IntKind.i64 x30 fun n32 =>
                                                              unCons l31 fun x33 l34 =>
                                                                V.unInt IntKind.i64 x33 fun n35 =>
                                                                  unCons l34 fun x36 l37 =>
                                                                    V.unInt IntKind.i64 x36 fun n38 =>
                                                                      unCons l37 fun x39 l40 =>
                                                                        V.unSl 24 x39 fun l41 =>
                                                                          unNil l40
                                                                            (br (decide (0 ≤ n2) && decide (n2 < (↑vs1.length : Int)))
                                                                              (at? vs1 n2.toNat fun x42 =>
                                                                                x42.unAgg fun l43 =>
                                                                                  unCons l43 fun x44 l45 =>
                                                                                    V.unInt IntKind.i64 x44 fun n46 =>
                                                                                      unCons l45 fun x47 l48 =>
                                                                                        V.unInt IntKind.i64 x47 fun n49 =>
                                                                                          unCons l48 fun x50 l51 =>
                                                                                            V.unInt IntKind.i64 x50 fun n52 =>
                                                                                              unCons l51 fun x53 l54 =>
                                                                                                V.unSl 24 x53 fun l55 =>
                                                                                                  unNil l54 (bnd1 (s_qSameCond N N n35 n38 l41 n49 n52 l55) fun b56 => br (!b56) (K0 false) (Lq (IntKind.i64.wrap (n2 + 1)))))
                                                                              none))
                                                      none)))
                            none))
    none)
  K1
noncomputable def S_qSame_4 {R : Type} (N : Nat) (vs0 : List V) (vs1 : List V) : Nat → Int → (Bool → Option R) → (Option R) → Option R
  | 0, _, _, _ => none
  | t + 1, n2, K0, K1 => F_qSame_4 N vs0 vs1 (fun n2 => S_qSame_4 N vs0 vs1 t n2 K0 K1) K0 K1 n2
noncomputable def l_qSame_4 {R : Type} (N : Nat) (ds : List D) (m : Mem) (K : Ex → List D → Mem → Option R) : Option R :=
  match ds, m with
  | [(.v (.sl 53 vs0) .no), (.v (.sl 53 vs1) .no), (.v (.int .i64 n2) .no)], [[]] => S_qSame_4 N vs0 vs1 N n2 (fun a0 => K .ret [(.v (.bool a0) .no)] [[]]) (K (.exit 0) [.any] [[]])
  | _, _ => none
noncomputable def s_qSame (N : Nat) (x0 : List V) (x1 : List V) : Option (Bool) :=
  br (!decide ((↑x0.length : Int) = (↑x1.length : Int))) (some false) (S_qSame_4 N x0 x1 N 0 (fun b0 => some b0) (some true))
noncomputable def cx_qSame (N : Nat) : Cx := { T := T, isPure := tabP [⟨29, e_qSameCond (s_qSameCond N N)⟩], pureK := fun g ds K => tabK [⟨29, e_qSameCond (s_qSameCond N N)⟩] g ds K, memK := fun g dst ds m K => tabMK [] g dst ds m K, meth := tabM [], keep := fun r => match r with | 4 => [0, 1, 5] | _ => [], keepX := fun r => match r with | 4 => [4] | _ => [], loopT := fun r ds m K => match r with | 4 => l_qSame_4 N ds m K | _ => none, jumps := 9 }
theorem F_qSame_4_ok {R : Type} (N : Nat) (vs0 : List V) (vs1 : List V) (n2 : Int) (L : List D → Mem → Option R) (K : Ex → List D → Mem → Option R) :
    roundK (fun st K => codeK (cx_qSame N) (loopN Tryd.f35 0) st K) 42 [0, 1, 5] [4] L [(.v (.sl 53 vs0) .no), (.v (.sl 53 vs1) .no), (.v (.int .i64 n2) .no)] [[]] K = F_qSame_4 N vs0 vs1 (fun n2 => L [(.v (.sl 53 vs0) .no), (.v (.sl 53 vs1) .no), (.v (.int .i64 n2) .no)] [[]]) (fun a0 => K .ret [(.v (.bool a0) .no)] [[]]) (K (.exit 0) [.any] [[]]) n2 := by
  kernel_rfl
theorem S_qSame_4_ok {R : Type} (N : Nat) (vs0 : List V) (vs1 : List V) (K : Ex → List D → Mem → Option R) : ∀ (t : Nat) (n2 : Int),
    loopK (fun st K => codeK (cx_qSame N) (loopN Tryd.f35 0) st K) 42 [0, 1, 5] [4] t [(.v (.sl 53 vs0) .no), (.v (.sl 53 vs1) .no), (.v (.int .i64 n2) .no)] [[]] K = S_qSame_4 N vs0 vs1 t n2 (fun a0 => K .ret [(.v (.bool a0) .no)] [[]]) (K (.exit 0) [.any] [[]])
  | 0, n2 => rfl
  | t + 1, n2 => (F_qSame_4_ok N vs0 vs1 n2 _ K).trans (congrArg (fun L => F_qSame_4 N vs0 vs1 L (fun a0 => K .ret [(.v (.bool a0) .no)] [[]]) (K (.exit 0) [.any] [[]]) n2) (funext fun n2 => S_qSame_4_ok N vs0 vs1 K t n2))
theorem s_qSame_ok (N : Nat) (x0 : List V) (x1 : List V) : bodyK (cx_qSame N) Tryd.f35 [.v (.sl 53 x0) .no, .v (.sl 53 x1) .no] [] r_qSame = s_qSame N x0 x1 := by
  kernel_rfl
theorem go_qSame : Goes Tryd.prog 35 := goes_of Tryd.func35 (by kernel_rfl) (c := bodyOf Tryd.f35) (by kernel_rfl)
theorem eo_qSame (s : List V → List V → Option (Bool)) (hs : ∀ (x0 : List V) (x1 : List V) (r0 : Bool), s x0 x1 = some r0 → PureRet Tryd.prog T 35 [.v (.sl 53 x0) .no, .v (.sl 53 x1) .no] [.v (.bool r0) .no]) : EntOK Tryd.prog T ⟨35, e_qSame s⟩ := by
  refine ⟨go_qSame, fun R ds K r h => ?_, fun R ds K => ?_⟩
  · simp only [e_qSame] at h
    split at h
    · obtain ⟨r0, h1, h2⟩ := bnd1_some h
      exact ⟨_, h2, hs _ _ _ h1⟩
    · cases h
  · simp only [e_qSame]
    split
    · rw [bnd1_b]; rfl
    · rfl
theorem co_qSame (N : Nat) : CxOK Tryd.prog (cx_qSame N) :=
  cxOK_of2 (es := [⟨29, e_qSameCond (s_qSameCond N N)⟩]) (me := []) (ms := []) T_ok ⟨eo_qSameCond _ (p_qSameCond N N), trivial⟩ trivial trivial rfl (fun _ _ _ _ => rfl) (fun _ _ _ _ _ _ => rfl) rfl
theorem lk_qSame_4 (N : Nat) : LoopOK (cx_qSame N) 42 (loopN Tryd.f35 0) := by
  refine loopOK_of (rid := 4) (by kernel_rfl) rfl rfl fun R ds m K r h => ?_
  have h : l_qSame_4 N ds m K = some r := h
  unfold l_qSame_4 at h
  split at h
  · exact ⟨N, Eq.trans (S_qSame_4_ok ..) h⟩
  · cases h
theorem lo_qSame (N : Nat) : LoopsOK (cx_qSame N) Tryd.f35.ntmps (bodyOf Tryd.f35) :=
  loopsOK_of (k := 1) (by kernel_rfl) ⟨trivial, lk_qSame_4 N⟩
theorem p_qSame (N : Nat) (x0 : List V) (x1 : List V) (r0 : Bool) (h : s_qSame N x0 x1 = some r0) : PureRet Tryd.prog T 35 [.v (.sl 53 x0) .no, .v (.sl 53 x1) .no] [.v (.bool r0) .no] :=
  pure_of (cx := cx_qSame N) (by kernel_rfl) (co_qSame N) Tryd.func35 (by kernel_rfl) (by kernel_rfl) (lo_qSame N) rfl rfl rfl (rf := r_qSame) ((s_qSame_ok N x0 x1).trans h) (fun rs' m h => by
    unfold r_qSame at h
    split at h
    · cases h; exact ⟨rfl, rfl⟩
    · cases h)
end Go.Proofs.YtahemenhcoedgaaDoor.En

/- Functions of the program in plain Lean, joined to the program by evaluation; printed by a program. -/
namespace Go.Proofs.YtahemenhcoedgaaDoor.En
open Go Go.Proofs
set_option maxRecDepth 100000
set_option linter.unusedVariables false
noncomputable def e_lleft {R : Type} (s : Int → Int → List V → Int → Option (Int)) (ds : List D) (K : List D → Option R) : Option R :=
  match ds with
  | [.agg [.v (.int .i64 x0) .no, .v (.int .i64 x1) .no, .v (.sl 24 x2) .no], .v (.int .i64 x3) .no] => bnd1 (s x0 x1 x2 x3) fun r0 => K [.v (.int .i64 r0) .no]
  | _ => none
noncomputable def r_lleft (rs : List D) (_ : Mem) : Option (Int) :=
  match rs with
  | [.v (.int .i64 r0) _] => some (r0)
  | _ => none
noncomputable def F_lleft_3 {R : Type} (N : Nat) (f : Int → Int → List V → Int → Option (Int)) (n2 : Int) (n3 : Int) (vs4 : List V) (Lq : Int → Int → Option R) (K0 : Int → Option R) (n0 : Int) (n1 : Int) : Option R :=
  br (decide (n1 < (↑vs4.length : Int)))
  (br (decide (0 ≤ n0))
    (br (decide (0 ≤ n1) && decide (n1 < (↑vs4.length : Int)))
      (at? vs4 n1.toNat fun x0 =>
        x0.unAgg fun l1 =>
          unCons l1 fun x2 l3 =>
            V.unInt IntKind.i64 x2 fun n4 => unCons l3 fun x5 l6 => V.unInt IntKind.i64 x5 fun n7 => unCons l6 fun x8 l9 => V.unSl 24 x8 fun l10 => unNil l9 (bnd1 (f n4 n7 l10 n0) fun n11 => Lq n11 (IntKind.i64.wrap (n1 + 1))))
      none)
    (K0 n0))
  (K0 n0)
noncomputable def S_lleft_3 {R : Type} (N : Nat) (f : Int → Int → List V → Int → Option (Int)) (n2 : Int) (n3 : Int) (vs4 : List V) : Nat → Int → Int → (Int → Option R) → Option R
  | 0, _, _, _ => none
  | t + 1, n0, n1, K0 => F_lleft_3 N f n2 n3 vs4 (fun n0 n1 => S_lleft_3 N f n2 n3 vs4 t n0 n1 K0) K0 n0 n1
noncomputable def l_lleft_3 {R : Type} (N : Nat) (f : Int → Int → List V → Int → Option (Int)) (ds : List D) (m : Mem) (K : Ex → List D → Mem → Option R) : Option R :=
  match ds, m with
  | [(.v (.int .i64 n0) .no), (.ptr 0 2 0), (.v (.int .i64 n1) .no)], [[(2, ⟨24, [(.v (.int .i64 n2) .no), (.v (.int .i64 n3) .no), (.v (.sl 24 vs4) .no)]⟩)]] => S_lleft_3 N f n2 n3 vs4 N n0 n1 (fun a0 => K (.exit 0) [(.v (.int .i64 a0) .no), (.ptr 0 2 0)] [[(2, ⟨24, [(.v (.int .i64 n2) .no), (.v (.int .i64 n3) .no), (.v (.sl 24 vs4) .no)]⟩)]])
  | _, _ => none
noncomputable def B_lleft (N : Nat) (f : Int → Int → List V → Int → Option (Int)) (x0 : Int) (x1 : Int) (x2 : List V) (x3 : Int) : Option (Int) :=
  S_lleft_3 N f x0 x1 x2 N (IntKind.i64.wrap (x3 - 1)) 0 fun n0 => some n0
noncomputable def s_lleft (N : Nat) : Nat → Int → Int → List V → Int → Option (Int)
  | 0, _, _, _, _ => none
  | n + 1, x0, x1, x2, x3 => B_lleft N (s_lleft N n) x0 x1 x2 x3
noncomputable def cx_lleft (N : Nat) (f : Int → Int → List V → Int → Option (Int)) : Cx := { T := T, isPure := tabP [⟨38, e_lleft f⟩], pureK := fun g ds K => tabK [⟨38, e_lleft f⟩] g ds K, memK := fun g dst ds m K => tabMK [] g dst ds m K, meth := tabM [], keep := fun r => match r with | 3 => [1, 2, 5] | _ => [], keepX := fun r => match r with | 3 => [1, 2] | _ => [], loopT := fun r ds m K => match r with | 3 => l_lleft_3 N f ds m K | _ => none, jumps := 9 }
theorem F_lleft_3_ok {R : Type} (N : Nat) (f : Int → Int → List V → Int → Option (Int)) (n2 : Int) (n3 : Int) (vs4 : List V) (n0 : Int) (n1 : Int) (L : List D → Mem → Option R) (K : Ex → List D → Mem → Option R) :
    roundK (fun st K => codeK (cx_lleft N f) (loopN Tryd.f38 0) st K) 27 [1, 2, 5] [1, 2] L [(.v (.int .i64 n0) .no), (.ptr 0 2 0), (.v (.int .i64 n1) .no)] [[(2, ⟨24, [(.v (.int .i64 n2) .no), (.v (.int .i64 n3) .no), (.v (.sl 24 vs4) .no)]⟩)]] K = F_lleft_3 N f n2 n3 vs4 (fun n0 n1 => L [(.v (.int .i64 n0) .no), (.ptr 0 2 0), (.v (.int .i64 n1) .no)] [[(2, ⟨24, [(.v (.int .i64 n2) .no), (.v (.int .i64 n3) .no), (.v (.sl 24 vs4) .no)]⟩)]]) (fun a0 => K (.exit 0) [(.v (.int .i64 a0) .no), (.ptr 0 2 0)] [[(2, ⟨24, [(.v (.int .i64 n2) .no), (.v (.int .i64 n3) .no), (.v (.sl 24 vs4) .no)]⟩)]]) n0 n1 := by
  kernel_rfl
theorem S_lleft_3_ok {R : Type} (N : Nat) (f : Int → Int → List V → Int → Option (Int)) (n2 : Int) (n3 : Int) (vs4 : List V) (K : Ex → List D → Mem → Option R) : ∀ (t : Nat) (n0 : Int) (n1 : Int),
    loopK (fun st K => codeK (cx_lleft N f) (loopN Tryd.f38 0) st K) 27 [1, 2, 5] [1, 2] t [(.v (.int .i64 n0) .no), (.ptr 0 2 0), (.v (.int .i64 n1) .no)] [[(2, ⟨24, [(.v (.int .i64 n2) .no), (.v (.int .i64 n3) .no), (.v (.sl 24 vs4) .no)]⟩)]] K = S_lleft_3 N f n2 n3 vs4 t n0 n1 (fun a0 => K (.exit 0) [(.v (.int .i64 a0) .no), (.ptr 0 2 0)] [[(2, ⟨24, [(.v (.int .i64 n2) .no), (.v (.int .i64 n3) .no), (.v (.sl 24 vs4) .no)]⟩)]])
  | 0, n0, n1 => rfl
  | t + 1, n0, n1 => (F_lleft_3_ok N f n2 n3 vs4 n0 n1 _ K).trans (congrArg (fun L => F_lleft_3 N f n2 n3 vs4 L (fun a0 => K (.exit 0) [(.v (.int .i64 a0) .no), (.ptr 0 2 0)] [[(2, ⟨24, [(.v (.int .i64 n2) .no), (.v (.int .i64 n3) .no), (.v (.sl 24 vs4) .no)]⟩)]]) n0 n1) (funext fun n0 => funext fun n1 => S_lleft_3_ok N f n2 n3 vs4 K t n0 n1))
theorem B_lleft_ok (N : Nat) (f : Int → Int → List V → Int → Option (Int)) (x0 : Int) (x1 : Int) (x2 : List V) (x3 : Int) : bodyK (cx_lleft N f) Tryd.f38 [.agg [.v (.int .i64 x0) .no, .v (.int .i64 x1) .no, .v (.sl 24 x2) .no], .v (.int .i64 x3) .no] [] r_lleft = B_lleft N f x0 x1 x2 x3 := by
  kernel_rfl
theorem go_lleft : Goes Tryd.prog 38 := goes_of Tryd.func38 (by kernel_rfl) (c := bodyOf Tryd.f38) (by kernel_rfl)
theorem eo_lleft (s : Int → Int → List V → Int → Option (Int)) (hs : ∀ (x0 : Int) (x1 : Int) (x2 : List V) (x3 : Int) (r0 : Int), s x0 x1 x2 x3 = some r0 → PureRet Tryd.prog T 38 [.agg [.v (.int .i64 x0) .no, .v (.int .i64 x1) .no, .v (.sl 24 x2) .no], .v (.int .i64 x3) .no] [.v (.int .i64 r0) .no]) : EntOK Tryd.prog T ⟨38, e_lleft s⟩ := by
  refine ⟨go_lleft, fun R ds K r h => ?_, fun R ds K => ?_⟩
  · simp only [e_lleft] at h
    split at h
    · obtain ⟨r0, h1, h2⟩ := bnd1_some h
      exact ⟨_, h2, hs _ _ _ _ _ h1⟩
    · cases h
  · simp only [e_lleft]
    split
    · rw [bnd1_b]; rfl
    · rfl
theorem co_lleft (N : Nat) (f : Int → Int → List V → Int → Option (Int)) (hf : ∀ (x0 : Int) (x1 : Int) (x2 : List V) (x3 : Int) (r0 : Int), f x0 x1 x2 x3 = some r0 → PureRet Tryd.prog T 38 [.agg [.v (.int .i64 x0) .no, .v (.int .i64 x1) .no, .v (.sl 24 x2) .no], .v (.int .i64 x3) .no] [.v (.int .i64 r0) .no]) : CxOK Tryd.prog (cx_lleft N f) :=
  cxOK_of2 (es := [⟨38, e_lleft f⟩]) (me := []) (ms := []) T_ok ⟨eo_lleft f hf, trivial⟩ trivial trivial rfl (fun _ _ _ _ => rfl) (fun _ _ _ _ _ _ => rfl) rfl
theorem lk_lleft_3 (N : Nat) (f : Int → Int → List V → Int → Option (Int)) : LoopOK (cx_lleft N f) 27 (loopN Tryd.f38 0) := by
  refine loopOK_of (rid := 3) (by kernel_rfl) rfl rfl fun R ds m K r h => ?_
  have h : l_lleft_3 N f ds m K = some r := h
  unfold l_lleft_3 at h
  split at h
  · exact ⟨N, Eq.trans (S_lleft_3_ok ..) h⟩
  · cases h
theorem lo_lleft (N : Nat) (f : Int → Int → List V → Int → Option (Int)) : LoopsOK (cx_lleft N f) Tryd.f38.ntmps (bodyOf Tryd.f38) :=
  loopsOK_of (k := 1) (by kernel_rfl) ⟨trivial, lk_lleft_3 N f⟩
theorem p_lleft (N : Nat) : ∀ (M : Nat) (x0 : Int) (x1 : Int) (x2 : List V) (x3 : Int) (r0 : Int), s_lleft N M x0 x1 x2 x3 = some r0 → PureRet Tryd.prog T 38 [.agg [.v (.int .i64 x0) .no, .v (.int .i64 x1) .no, .v (.sl 24 x2) .no], .v (.int .i64 x3) .no] [.v (.int .i64 r0) .no]
  | 0, _, _, _, _, _, h => by cases h
  | M + 1, x0, x1, x2, x3, r0, h => pure_of (cx := cx_lleft N (s_lleft N M)) (by kernel_rfl) (co_lleft N (s_lleft N M) (p_lleft N M)) Tryd.func38 (by kernel_rfl) (by kernel_rfl) (lo_lleft N (s_lleft N M)) rfl rfl rfl (rf := r_lleft) ((B_lleft_ok N (s_lleft N M) x0 x1 x2 x3).trans h) (fun rs' m h => by
    unfold r_lleft at h
    split at h
    · cases h; exact ⟨rfl, rfl⟩
    · cases h)
noncomputable def e_lfew {R : Type} (s : List V → Option (Bool)) (ds : List D) (K : List D → Option R) : Option R :=
  match ds with
  | [.v (.sl 24 x0) .no] => bnd1 (s x0) fun r0 => K [.v (.bool r0) .no]
  | _ => none
noncomputable def r_lfew (rs : List D) (_ : Mem) : Option (Bool) :=
  match rs with
  | [.v (.bool r0) _] => some (r0)
  | _ => none
noncomputable def F_lfew_2 {R : Type} (N : Nat) (vs0 : List V) (Lq : Int → Option R) (K0 : Bool → Option R) (K1 : Option R) (n1 : Int) : Option R :=
  br (decide (n1 < (↑vs0.length : Int)))
  (br (decide (0 ≤ n1) && decide (n1 < (↑vs0.length : Int)))
    (at? vs0 n1.toNat fun x0 =>
      x0.unAgg fun l1 =>
        unCons l1 fun x2 l3 =>
          V.unInt IntKind.i64 x2 fun n4 =>
            unCons l3 fun x5 l6 => V.unInt IntKind.i64 x5 fun n7 => unCons l6 fun x8 l9 => V.unSl 24 x8 fun l10 => unNil l9 (bnd1 (s_lleft N N n4 n7 l10 200) fun n11 => br (decide (n11 < 0)) (K0 false) (Lq (IntKind.i64.wrap (n1 + 1)))))
    none)
  K1
noncomputable def S_lfew_2 {R : Type} (N : Nat) (vs0 : List V) : Nat → Int → (Bool → Option R) → (Option R) → Option R
  | 0, _, _, _ => none
  | t + 1, n1, K0, K1 => F_lfew_2 N vs0 (fun n1 => S_lfew_2 N vs0 t n1 K0 K1) K0 K1 n1
noncomputable def l_lfew_2 {R : Type} (N : Nat) (ds : List D) (m : Mem) (K : Ex → List D → Mem → Option R) : Option R :=
  match ds, m with
  | [(.v (.sl 24 vs0) .no), (.v (.int .i64 n1) .no)], [[]] => S_lfew_2 N vs0 N n1 (fun a0 => K .ret [(.v (.bool a0) .no)] [[]]) (K (.exit 0) [.any] [[]])
  | _, _ => none
noncomputable def s_lfew (N : Nat) (x0 : List V) : Option (Bool) :=
  S_lfew_2 N x0 N 0 (fun b0 => some b0) (some true)
noncomputable def cx_lfew (N : Nat) : Cx := { T := T, isPure := tabP [⟨38, e_lleft (s_lleft N N)⟩], pureK := fun g ds K => tabK [⟨38, e_lleft (s_lleft N N)⟩] g ds K, memK := fun g dst ds m K => tabMK [] g dst ds m K, meth := tabM [], keep := fun r => match r with | 2 => [0, 3] | _ => [], keepX := fun r => match r with | 2 => [2] | _ => [], loopT := fun r ds m K => match r with | 2 => l_lfew_2 N ds m K | _ => none, jumps := 9 }
theorem F_lfew_2_ok {R : Type} (N : Nat) (vs0 : List V) (n1 : Int) (L : List D → Mem → Option R) (K : Ex → List D → Mem → Option R) :
    roundK (fun st K => codeK (cx_lfew N) (loopN Tryd.f15 0) st K) 16 [0, 3] [2] L [(.v (.sl 24 vs0) .no), (.v (.int .i64 n1) .no)] [[]] K = F_lfew_2 N vs0 (fun n1 => L [(.v (.sl 24 vs0) .no), (.v (.int .i64 n1) .no)] [[]]) (fun a0 => K .ret [(.v (.bool a0) .no)] [[]]) (K (.exit 0) [.any] [[]]) n1 := by
  kernel_rfl
theorem S_lfew_2_ok {R : Type} (N : Nat) (vs0 : List V) (K : Ex → List D → Mem → Option R) : ∀ (t : Nat) (n1 : Int),
    loopK (fun st K => codeK (cx_lfew N) (loopN Tryd.f15 0) st K) 16 [0, 3] [2] t [(.v (.sl 24 vs0) .no), (.v (.int .i64 n1) .no)] [[]] K = S_lfew_2 N vs0 t n1 (fun a0 => K .ret [(.v (.bool a0) .no)] [[]]) (K (.exit 0) [.any] [[]])
  | 0, n1 => rfl
  | t + 1, n1 => (F_lfew_2_ok N vs0 n1 _ K).trans (congrArg (fun L => F_lfew_2 N vs0 L (fun a0 => K .ret [(.v (.bool a0) .no)] [[]]) (K (.exit 0) [.any] [[]]) n1) (funext fun n1 => S_lfew_2_ok N vs0 K t n1))
theorem s_lfew_ok (N : Nat) (x0 : List V) : bodyK (cx_lfew N) Tryd.f15 [.v (.sl 24 x0) .no] [] r_lfew = s_lfew N x0 := by
  kernel_rfl
theorem go_lfew : Goes Tryd.prog 15 := goes_of Tryd.func15 (by kernel_rfl) (c := bodyOf Tryd.f15) (by kernel_rfl)
theorem eo_lfew (s : List V → Option (Bool)) (hs : ∀ (x0 : List V) (r0 : Bool), s x0 = some r0 → PureRet Tryd.prog T 15 [.v (.sl 24 x0) .no] [.v (.bool r0) .no]) : EntOK Tryd.prog T ⟨15, e_lfew s⟩ := by
  refine ⟨go_lfew, fun R ds K r h => ?_, fun R ds K => ?_⟩
  · simp only [e_lfew] at h
    split at h
    · obtain ⟨r0, h1, h2⟩ := bnd1_some h
      exact ⟨_, h2, hs _ _ h1⟩
    · cases h
  · simp only [e_lfew]
    split
    · rw [bnd1_b]; rfl
    · rfl
theorem co_lfew (N : Nat) : CxOK Tryd.prog (cx_lfew N) :=
  cxOK_of2 (es := [⟨38, e_lleft (s_lleft N N)⟩]) (me := []) (ms := []) T_ok ⟨eo_lleft _ (p_lleft N N), trivial⟩ trivial trivial rfl (fun _ _ _ _ => rfl) (fun _ _ _ _ _ _ => rfl) rfl
theorem lk_lfew_2 (N : Nat) : LoopOK (cx_lfew N) 16 (loopN Tryd.f15 0) := by
  refine loopOK_of (rid := 2) (by kernel_rfl) rfl rfl fun R ds m K r h => ?_
  have h : l_lfew_2 N ds m K = some r := h
  unfold l_lfew_2 at h
  split at h
  · exact ⟨N, Eq.trans (S_lfew_2_ok ..) h⟩
  · cases h
theorem lo_lfew (N : Nat) : LoopsOK (cx_lfew N) Tryd.f15.ntmps (bodyOf Tryd.f15) :=
  loopsOK_of (k := 1) (by kernel_rfl) ⟨trivial, lk_lfew_2 N⟩
theorem p_lfew (N : Nat) (x0 : List V) (r0 : Bool) (h : s_lfew N x0 = some r0) : PureRet Tryd.prog T 15 [.v (.sl 24 x0) .no] [.v (.bool r0) .no] :=
  pure_of (cx := cx_lfew N) (by kernel_rfl) (co_lfew N) Tryd.func15 (by kernel_rfl) (by kernel_rfl) (lo_lfew N) rfl rfl rfl (rf := r_lfew) ((s_lfew_ok N x0).trans h) (fun rs' m h => by
    unfold r_lfew at h
    split at h
    · cases h; exact ⟨rfl, rfl⟩
    · cases h)
noncomputable def e_lfewRules {R : Type} (s : List V → Option (Bool)) (ds : List D) (K : List D → Option R) : Option R :=
  match ds with
  | [.v (.sl 53 x0) .no] => bnd1 (s x0) fun r0 => K [.v (.bool r0) .no]
  | _ => none
noncomputable def r_lfewRules (rs : List D) (_ : Mem) : Option (Bool) :=
  match rs with
  | [.v (.bool r0) _] => some (r0)
  | _ => none
noncomputable def F_lfewRules_4 {R : Type} (N : Nat) (vs0 : List V) (Lq : Int → Option R) (K0 : Bool → Option R) (K1 : Option R) (n1 : Int) : Option R :=
  br (decide (n1 < (↑vs0.length : Int)))
  (br (decide (0 ≤ n1) && decide (n1 < (↑vs0.length : Int)))
    (at? vs0 n1.toNat fun x0 =>
      x0.unAgg fun l1 =>
        unCons l1 fun x2 l3 =>
          V.unInt IntKind.i64 x2 fun n4 =>
            unCons l3 fun x5 l6 =>
              V.unInt IntKind.i64 x5 fun n7 =>
                unCons l6 fun x8 l9 =>
                  V.unInt IntKind.i64 x8 fun n10 =>
                    unCons l9 fun x11 l12 => V.unSl 24 x11 fun l13 => unNil l12 (bnd1 (s_lfew N [V.agg [V.int IntKind.i64 n7, V.int IntKind.i64 n10, V.sl 24 l13]]) fun b14 => br (!b14) (K0 false) (Lq (IntKind.i64.wrap (n1 + 1)))))
    none)
  K1
noncomputable def S_lfewRules_4 {R : Type} (N : Nat) (vs0 : List V) : Nat → Int → (Bool → Option R) → (Option R) → Option R
  | 0, _, _, _ => none
  | t + 1, n1, K0, K1 => F_lfewRules_4 N vs0 (fun n1 => S_lfewRules_4 N vs0 t n1 K0 K1) K0 K1 n1
noncomputable def l_lfewRules_4 {R : Type} (N : Nat) (ds : List D) (m : Mem) (K : Ex → List D → Mem → Option R) : Option R :=
  match ds, m with
  | [(.v (.sl 53 vs0) .no), (.v (.int .i64 n1) .no)], [[]] => S_lfewRules_4 N vs0 N n1 (fun a0 => K .ret [(.v (.bool a0) .no)] [[]]) (K (.exit 0) [.any] [[]])
  | _, _ => none
noncomputable def s_lfewRules (N : Nat) (x0 : List V) : Option (Bool) :=
  br (decide (50 < (↑x0.length : Int))) (some false) (S_lfewRules_4 N x0 N 0 (fun b0 => some b0) (some true))
noncomputable def cx_lfewRules (N : Nat) : Cx := { T := T, isPure := tabP [⟨15, e_lfew (s_lfew N)⟩], pureK := fun g ds K => tabK [⟨15, e_lfew (s_lfew N)⟩] g ds K, memK := fun g dst ds m K => tabMK [] g dst ds m K, meth := tabM [], keep := fun r => match r with | 4 => [0, 3] | _ => [], keepX := fun r => match r with | 4 => [2] | _ => [], loopT := fun r ds m K => match r with | 4 => l_lfewRules_4 N ds m K | _ => none, jumps := 9 }
theorem F_lfewRules_4_ok {R : Type} (N : Nat) (vs0 : List V) (n1 : Int) (L : List D → Mem → Option R) (K : Ex → List D → Mem → Option R) :
    roundK (fun st K => codeK (cx_lfewRules N) (loopN Tryd.f24 0) st K) 21 [0, 3] [2] L [(.v (.sl 53 vs0) .no), (.v (.int .i64 n1) .no)] [[]] K = F_lfewRules_4 N vs0 (fun n1 => L [(.v (.sl 53 vs0) .no), (.v (.int .i64 n1) .no)] [[]]) (fun a0 => K .ret [(.v (.bool a0) .no)] [[]]) (K (.exit 0) [.any] [[]]) n1 := by
  kernel_rfl
theorem S_lfewRules_4_ok {R : Type} (N : Nat) (vs0 : List V) (K : Ex → List D → Mem → Option R) : ∀ (t : Nat) (n1 : Int),
    loopK (fun st K => codeK (cx_lfewRules N) (loopN Tryd.f24 0) st K) 21 [0, 3] [2] t [(.v (.sl 53 vs0) .no), (.v (.int .i64 n1) .no)] [[]] K = S_lfewRules_4 N vs0 t n1 (fun a0 => K .ret [(.v (.bool a0) .no)] [[]]) (K (.exit 0) [.any] [[]])
  | 0, n1 => rfl
  | t + 1, n1 => (F_lfewRules_4_ok N vs0 n1 _ K).trans (congrArg (fun L => F_lfewRules_4 N vs0 L (fun a0 => K .ret [(.v (.bool a0) .no)] [[]]) (K (.exit 0) [.any] [[]]) n1) (funext fun n1 => S_lfewRules_4_ok N vs0 K t n1))
theorem s_lfewRules_ok (N : Nat) (x0 : List V) : bodyK (cx_lfewRules N) Tryd.f24 [.v (.sl 53 x0) .no] [] r_lfewRules = s_lfewRules N x0 := by
  kernel_rfl
theorem go_lfewRules : Goes Tryd.prog 24 := goes_of Tryd.func24 (by kernel_rfl) (c := bodyOf Tryd.f24) (by kernel_rfl)
theorem eo_lfewRules (s : List V → Option (Bool)) (hs : ∀ (x0 : List V) (r0 : Bool), s x0 = some r0 → PureRet Tryd.prog T 24 [.v (.sl 53 x0) .no] [.v (.bool r0) .no]) : EntOK Tryd.prog T ⟨24, e_lfewRules s⟩ := by
  refine ⟨go_lfewRules, fun R ds K r h => ?_, fun R ds K => ?_⟩
  · simp only [e_lfewRules] at h
    split at h
    · obtain ⟨r0, h1, h2⟩ := bnd1_some h
      exact ⟨_, h2, hs _ _ h1⟩
    · cases h
  · simp only [e_lfewRules]
    split
    · rw [bnd1_b]; rfl
    · rfl
theorem co_lfewRules (N : Nat) : CxOK Tryd.prog (cx_lfewRules N) :=
  cxOK_of2 (es := [⟨15, e_lfew (s_lfew N)⟩]) (me := []) (ms := []) T_ok ⟨eo_lfew _ (p_lfew N), trivial⟩ trivial trivial rfl (fun _ _ _ _ => rfl) (fun _ _ _ _ _ _ => rfl) rfl
theorem lk_lfewRules_4 (N : Nat) : LoopOK (cx_lfewRules N) 21 (loopN Tryd.f24 0) := by
  refine loopOK_of (rid := 4) (by kernel_rfl) rfl rfl fun R ds m K r h => ?_
  have h : l_lfewRules_4 N ds m K = some r := h
  unfold l_lfewRules_4 at h
  split at h
  · exact ⟨N, Eq.trans (S_lfewRules_4_ok ..) h⟩
  · cases h
theorem lo_lfewRules (N : Nat) : LoopsOK (cx_lfewRules N) Tryd.f24.ntmps (bodyOf Tryd.f24) :=
  loopsOK_of (k := 1) (by kernel_rfl) ⟨trivial, lk_lfewRules_4 N⟩
theorem p_lfewRules (N : Nat) (x0 : List V) (r0 : Bool) (h : s_lfewRules N x0 = some r0) : PureRet Tryd.prog T 24 [.v (.sl 53 x0) .no] [.v (.bool r0) .no] :=
  pure_of (cx := cx_lfewRules N) (by kernel_rfl) (co_lfewRules N) Tryd.func24 (by kernel_rfl) (by kernel_rfl) (lo_lfewRules N) rfl rfl rfl (rf := r_lfewRules) ((s_lfewRules_ok N x0).trans h) (fun rs' m h => by
    unfold r_lfewRules at h
    split at h
    · cases h; exact ⟨rfl, rfl⟩
    · cases h)
noncomputable def e_small {R : Type} (s : Int → Option (List UInt8)) (ds : List D) (K : List D → Option R) : Option R :=
  match ds with
  | [.v (.int .i64 x0) .no] => bnd1 (s x0) fun r0 => K [.v (.str r0) .no]
  | _ => none
noncomputable def r_small (rs : List D) (_ : Mem) : Option (List UInt8) :=
  match rs with
  | [.v (.str r0) _] => some (r0)
  | _ => none
noncomputable def s_small (N : Nat) (x0 : Int) : Option (List UInt8) :=
  br (decide (x0 < 10))
  (br (decide (0 ≤ IntKind.i64.wrap (x0 + 1)) && decide (IntKind.i64.wrap (x0 + 1) ≤ 36))
    (br (decide (0 ≤ x0) && decide (x0 ≤ (↑(IntKind.i64.wrap (x0 + 1)).toNat : Int)))
      (some
        (List.drop x0.toNat
          (List.take (IntKind.i64.wrap (x0 + 1)).toNat ([48, 49, 50, 51, 52, 53, 54, 55, 56, 57, 97, 98, 99, 100, 101, 102, 103, 104, 105, 106, 107, 108, 109, 110, 111, 112, 113, 114, 115, 116, 117, 118, 119, 120, 121, 122] : List UInt8))))
      none)
    none)
  (br (decide (0 ≤ IntKind.i64.wrap (IntKind.i64.wrap (x0 * 2) + 2)) && decide (IntKind.i64.wrap (IntKind.i64.wrap (x0 * 2) + 2) ≤ 200))
    (br (decide (0 ≤ IntKind.i64.wrap (x0 * 2)) && decide (IntKind.i64.wrap (x0 * 2) ≤ (↑(IntKind.i64.wrap (IntKind.i64.wrap (x0 * 2) + 2)).toNat : Int)))
      (some
        (List.drop (IntKind.i64.wrap (x0 * 2)).toNat
          (List.take (IntKind.i64.wrap (IntKind.i64.wrap (x0 * 2) + 2)).toNat
            ([48, 48, 48, 49, 48, 50, 48, 51, 48, 52, 48, 53, 48, 54, 48, 55, 48, 56, 48, 57, 49, 48, 49, 49, 49, 50, 49, 51, 49, 52, 49, 53, 49, 54, 49, 55, 49, 56, 49, 57, 50, 48, 50, 49, 50, 50, 50, 51, 50, 52, 50, 53, 50, 54, 50, 55, 50,
              56, 50, 57, 51, 48, 51, 49, 51, 50, 51, 51, 51, 52, 51, 53, 51, 54, 51, 55, 51, 56, 51, 57, 52, 48, 52, 49, 52, 50, 52, 51, 52, 52, 52, 53, 52, 54, 52, 55, 52, 56, 52, 57, 53, 48, 53, 49, 53, 50, 53, 51, 53, 52, 53, 53, 53,
              54, 53, 55, 53, 56, 53, 57, 54, 48, 54, 49, 54, 50, 54, 51, 54, 52, 54, 53, 54, 54, 54, 55, 54, 56, 54, 57, 55, 48, 55, 49, 55, 50, 55, 51, 55, 52, 55, 53, 55, 54, 55, 55, 55, 56, 55, 57, 56, 48, 56, 49, 56, 50, 56, 51, 56,
              52, 56, 53, 56, 54, 56, 55, 56, 56, 56, 57, 57, 48, 57, 49, 57, 50, 57, 51, 57, 52, 57, 53, 57, 54, 57, 55, 57, 56, 57, 57] : List UInt8))))
      none)
    none)
noncomputable def cx_small (N : Nat) : Cx := { T := T, isPure := tabP [], pureK := fun g ds K => tabK [] g ds K, memK := fun g dst ds m K => tabMK [] g dst ds m K, meth := tabM [], keep := fun _ => [], keepX := fun _ => [], loopT := fun _ _ _ _ => none, jumps := 9 }
theorem s_small_ok (N : Nat) (x0 : Int) : bodyK (cx_small N) Tryd.f118 [.v (.int .i64 x0) .no] [] r_small = s_small N x0 := by
  kernel_rfl
theorem go_small : Goes Tryd.prog 118 := goes_of Tryd.func118 (by kernel_rfl) (c := bodyOf Tryd.f118) (by kernel_rfl)
theorem eo_small (s : Int → Option (List UInt8)) (hs : ∀ (x0 : Int) (r0 : List UInt8), s x0 = some r0 → PureRet Tryd.prog T 118 [.v (.int .i64 x0) .no] [.v (.str r0) .no]) : EntOK Tryd.prog T ⟨118, e_small s⟩ := by
  refine ⟨go_small, fun R ds K r h => ?_, fun R ds K => ?_⟩
  · simp only [e_small] at h
    split at h
    · obtain ⟨r0, h1, h2⟩ := bnd1_some h
      exact ⟨_, h2, hs _ _ h1⟩
    · cases h
  · simp only [e_small]
    split
    · rw [bnd1_b]; rfl
    · rfl
theorem co_small (N : Nat) : CxOK Tryd.prog (cx_small N) :=
  cxOK_of2 (es := []) (me := []) (ms := []) T_ok trivial trivial trivial rfl (fun _ _ _ _ => rfl) (fun _ _ _ _ _ _ => rfl) rfl
theorem lo_small (N : Nat) : LoopsOK (cx_small N) Tryd.f118.ntmps (bodyOf Tryd.f118) :=
  loopsOK_of (k := 0) (by kernel_rfl) trivial
theorem p_small (N : Nat) (x0 : Int) (r0 : List UInt8) (h : s_small N x0 = some r0) : PureRet Tryd.prog T 118 [.v (.int .i64 x0) .no] [.v (.str r0) .no] :=
  pure_of (cx := cx_small N) (by kernel_rfl) (co_small N) Tryd.func118 (by kernel_rfl) (by kernel_rfl) (lo_small N) rfl rfl rfl (rf := r_small) ((s_small_ok N x0).trans h) (fun rs' m h => by
    unfold r_small at h
    split at h
    · cases h; exact ⟨rfl, rfl⟩
    · cases h)
noncomputable def e_FormatInt {R : Type} (s : Int → Int → Option (List UInt8)) (ds : List D) (K : List D → Option R) : Option R :=
  match ds with
  | [.v (.int .i64 x0) .no, .v (.int .i64 x1) .no] => bnd1 (s x0 x1) fun r0 => K [.v (.str r0) .no]
  | _ => none
noncomputable def r_FormatInt (rs : List D) (_ : Mem) : Option (List UInt8) :=
  match rs with
  | [.v (.str r0) _] => some (r0)
  | _ => none
noncomputable def s_FormatInt (N : Nat) (x0 : Int) (x1 : Int) : Option (List UInt8) :=
  br (decide (x1 = 10)) (br (decide (0 ≤ x0)) (br (decide (x0 < 100)) (bnd1 (s_small N x0) fun l0 => some l0) (br (decide (x0 < 0)) none none)) (br (decide (x0 < 0)) none none)) none
noncomputable def cx_FormatInt (N : Nat) : Cx := { T := T, isPure := tabP [⟨118, e_small (s_small N)⟩], pureK := fun g ds K => tabK [⟨118, e_small (s_small N)⟩] g ds K, memK := fun g dst ds m K => tabMK [] g dst ds m K, meth := tabM [], keep := fun _ => [], keepX := fun _ => [], loopT := fun _ _ _ _ => none, jumps := 9 }
theorem s_FormatInt_ok (N : Nat) (x0 : Int) (x1 : Int) : bodyK (cx_FormatInt N) Tryd.f115 [.v (.int .i64 x0) .no, .v (.int .i64 x1) .no] [] r_FormatInt = s_FormatInt N x0 x1 := by
  kernel_rfl
theorem go_FormatInt : Goes Tryd.prog 115 := goes_of Tryd.func115 (by kernel_rfl) (c := bodyOf Tryd.f115) (by kernel_rfl)
theorem eo_FormatInt (s : Int → Int → Option (List UInt8)) (hs : ∀ (x0 : Int) (x1 : Int) (r0 : List UInt8), s x0 x1 = some r0 → PureRet Tryd.prog T 115 [.v (.int .i64 x0) .no, .v (.int .i64 x1) .no] [.v (.str r0) .no]) : EntOK Tryd.prog T ⟨115, e_FormatInt s⟩ := by
  refine ⟨go_FormatInt, fun R ds K r h => ?_, fun R ds K => ?_⟩
  · simp only [e_FormatInt] at h
    split at h
    · obtain ⟨r0, h1, h2⟩ := bnd1_some h
      exact ⟨_, h2, hs _ _ _ h1⟩
    · cases h
  · simp only [e_FormatInt]
    split
    · rw [bnd1_b]; rfl
    · rfl
theorem co_FormatInt (N : Nat) : CxOK Tryd.prog (cx_FormatInt N) :=
  cxOK_of2 (es := [⟨118, e_small (s_small N)⟩]) (me := []) (ms := []) T_ok ⟨eo_small _ (p_small N), trivial⟩ trivial trivial rfl (fun _ _ _ _ => rfl) (fun _ _ _ _ _ _ => rfl) rfl
theorem lo_FormatInt (N : Nat) : LoopsOK (cx_FormatInt N) Tryd.f115.ntmps (bodyOf Tryd.f115) :=
  loopsOK_of (k := 0) (by kernel_rfl) trivial
theorem p_FormatInt (N : Nat) (x0 : Int) (x1 : Int) (r0 : List UInt8) (h : s_FormatInt N x0 x1 = some r0) : PureRet Tryd.prog T 115 [.v (.int .i64 x0) .no, .v (.int .i64 x1) .no] [.v (.str r0) .no] :=
  pure_of (cx := cx_FormatInt N) (by kernel_rfl) (co_FormatInt N) Tryd.func115 (by kernel_rfl) (by kernel_rfl) (lo_FormatInt N) rfl rfl rfl (rf := r_FormatInt) ((s_FormatInt_ok N x0 x1).trans h) (fun rs' m h => by
    unfold r_FormatInt at h
    split at h
    · cases h; exact ⟨rfl, rfl⟩
    · cases h)
noncomputable def e_iItoa {R : Type} (s : Int → Option (List UInt8)) (ds : List D) (K : List D → Option R) : Option R :=
  match ds with
  | [.v (.int .i64 x0) .no] => bnd1 (s x0) fun r0 => K [.v (.str r0) .no]
  | _ => none
noncomputable def r_iItoa (rs : List D) (_ : Mem) : Option (List UInt8) :=
  match rs with
  | [.v (.str r0) _] => some (r0)
  | _ => none
noncomputable def s_iItoa (N : Nat) (x0 : Int) : Option (List UInt8) :=
  bnd1 (s_FormatInt N x0 10) fun l0 => some l0
noncomputable def cx_iItoa (N : Nat) : Cx := { T := T, isPure := tabP [⟨115, e_FormatInt (s_FormatInt N)⟩], pureK := fun g ds K => tabK [⟨115, e_FormatInt (s_FormatInt N)⟩] g ds K, memK := fun g dst ds m K => tabMK [] g dst ds m K, meth := tabM [], keep := fun _ => [], keepX := fun _ => [], loopT := fun _ _ _ _ => none, jumps := 9 }
theorem s_iItoa_ok (N : Nat) (x0 : Int) : bodyK (cx_iItoa N) Tryd.f102 [.v (.int .i64 x0) .no] [] r_iItoa = s_iItoa N x0 := by
  kernel_rfl
theorem go_iItoa : Goes Tryd.prog 102 := goes_of Tryd.func102 (by kernel_rfl) (c := bodyOf Tryd.f102) (by kernel_rfl)
theorem eo_iItoa (s : Int → Option (List UInt8)) (hs : ∀ (x0 : Int) (r0 : List UInt8), s x0 = some r0 → PureRet Tryd.prog T 102 [.v (.int .i64 x0) .no] [.v (.str r0) .no]) : EntOK Tryd.prog T ⟨102, e_iItoa s⟩ := by
  refine ⟨go_iItoa, fun R ds K r h => ?_, fun R ds K => ?_⟩
  · simp only [e_iItoa] at h
    split at h
    · obtain ⟨r0, h1, h2⟩ := bnd1_some h
      exact ⟨_, h2, hs _ _ h1⟩
    · cases h
  · simp only [e_iItoa]
    split
    · rw [bnd1_b]; rfl
    · rfl
theorem co_iItoa (N : Nat) : CxOK Tryd.prog (cx_iItoa N) :=
  cxOK_of2 (es := [⟨115, e_FormatInt (s_FormatInt N)⟩]) (me := []) (ms := []) T_ok ⟨eo_FormatInt _ (p_FormatInt N), trivial⟩ trivial trivial rfl (fun _ _ _ _ => rfl) (fun _ _ _ _ _ _ => rfl) rfl
theorem lo_iItoa (N : Nat) : LoopsOK (cx_iItoa N) Tryd.f102.ntmps (bodyOf Tryd.f102) :=
  loopsOK_of (k := 0) (by kernel_rfl) trivial
theorem p_iItoa (N : Nat) (x0 : Int) (r0 : List UInt8) (h : s_iItoa N x0 = some r0) : PureRet Tryd.prog T 102 [.v (.int .i64 x0) .no] [.v (.str r0) .no] :=
  pure_of (cx := cx_iItoa N) (by kernel_rfl) (co_iItoa N) Tryd.func102 (by kernel_rfl) (by kernel_rfl) (lo_iItoa N) rfl rfl rfl (rf := r_iItoa) ((s_iItoa_ok N x0).trans h) (fun rs' m h => by
    unfold r_iItoa at h
    split at h
    · cases h; exact ⟨rfl, rfl⟩
    · cases h)
noncomputable def e_Itoa {R : Type} (s : Int → Option (List UInt8)) (ds : List D) (K : List D → Option R) : Option R :=
  match ds with
  | [.v (.int .i64 x0) .no] => bnd1 (s x0) fun r0 => K [.v (.str r0) .no]
  | _ => none
noncomputable def r_Itoa (rs : List D) (_ : Mem) : Option (List UInt8) :=
  match rs with
  | [.v (.str r0) _] => some (r0)
  | _ => none
noncomputable def s_Itoa (N : Nat) (x0 : Int) : Option (List UInt8) :=
  bnd1 (s_iItoa N x0) fun l0 => some l0
noncomputable def cx_Itoa (N : Nat) : Cx := { T := T, isPure := tabP [⟨102, e_iItoa (s_iItoa N)⟩], pureK := fun g ds K => tabK [⟨102, e_iItoa (s_iItoa N)⟩] g ds K, memK := fun g dst ds m K => tabMK [] g dst ds m K, meth := tabM [], keep := fun _ => [], keepX := fun _ => [], loopT := fun _ _ _ _ => none, jumps := 9 }
theorem s_Itoa_ok (N : Nat) (x0 : Int) : bodyK (cx_Itoa N) Tryd.f82 [.v (.int .i64 x0) .no] [] r_Itoa = s_Itoa N x0 := by
  kernel_rfl
theorem go_Itoa : Goes Tryd.prog 82 := goes_of Tryd.func82 (by kernel_rfl) (c := bodyOf Tryd.f82) (by kernel_rfl)
theorem eo_Itoa (s : Int → Option (List UInt8)) (hs : ∀ (x0 : Int) (r0 : List UInt8), s x0 = some r0 → PureRet Tryd.prog T 82 [.v (.int .i64 x0) .no] [.v (.str r0) .no]) : EntOK Tryd.prog T ⟨82, e_Itoa s⟩ := by
  refine ⟨go_Itoa, fun R ds K r h => ?_, fun R ds K => ?_⟩
  · simp only [e_Itoa] at h
    split at h
    · obtain ⟨r0, h1, h2⟩ := bnd1_some h
      exact ⟨_, h2, hs _ _ h1⟩
    · cases h
  · simp only [e_Itoa]
    split
    · rw [bnd1_b]; rfl
    · rfl
theorem co_Itoa (N : Nat) : CxOK Tryd.prog (cx_Itoa N) :=
  cxOK_of2 (es := [⟨102, e_iItoa (s_iItoa N)⟩]) (me := []) (ms := []) T_ok ⟨eo_iItoa _ (p_iItoa N), trivial⟩ trivial trivial rfl (fun _ _ _ _ => rfl) (fun _ _ _ _ _ _ => rfl) rfl
theorem lo_Itoa (N : Nat) : LoopsOK (cx_Itoa N) Tryd.f82.ntmps (bodyOf Tryd.f82) :=
  loopsOK_of (k := 0) (by kernel_rfl) trivial
theorem p_Itoa (N : Nat) (x0 : Int) (r0 : List UInt8) (h : s_Itoa N x0 = some r0) : PureRet Tryd.prog T 82 [.v (.int .i64 x0) .no] [.v (.str r0) .no] :=
  pure_of (cx := cx_Itoa N) (by kernel_rfl) (co_Itoa N) Tryd.func82 (by kernel_rfl) (by kernel_rfl) (lo_Itoa N) rfl rfl rfl (rf := r_Itoa) ((s_Itoa_ok N x0).trans h) (fun rs' m h => by
    unfold r_Itoa at h
    split at h
    · cases h; exact ⟨rfl, rfl⟩
    · cases h)
noncomputable def e_Join {R : Type} (s : List V → List UInt8 → Option (List UInt8)) (ds : List D) (K : List D → Option R) : Option R :=
  match ds with
  | [.v (.sl 9 x0) .no, .v (.str x1) .no] => bnd1 (s x0 x1) fun r0 => K [.v (.str r0) .no]
  | _ => none
theorem go_Join : Goes Tryd.prog 83 := goes_of Tryd.func83 (by kernel_rfl) (c := bodyOf Tryd.f83) (by kernel_rfl)
theorem eo_Join (s : List V → List UInt8 → Option (List UInt8)) (hs : ∀ (x0 : List V) (x1 : List UInt8) (r0 : List UInt8), s x0 x1 = some r0 → PureRet Tryd.prog T 83 [.v (.sl 9 x0) .no, .v (.str x1) .no] [.v (.str r0) .no]) : EntOK Tryd.prog T ⟨83, e_Join s⟩ := by
  refine ⟨go_Join, fun R ds K r h => ?_, fun R ds K => ?_⟩
  · simp only [e_Join] at h
    split at h
    · obtain ⟨r0, h1, h2⟩ := bnd1_some h
      exact ⟨_, h2, hs _ _ _ h1⟩
    · cases h
  · simp only [e_Join]
    split
    · rw [bnd1_b]; rfl
    · rfl
noncomputable def e_atext {R : Type} (s : Int → Int → List V → Option (List UInt8)) (ds : List D) (K : List D → Option R) : Option R :=
  match ds with
  | [.agg [.v (.int .i64 x0) .no, .v (.int .i64 x1) .no, .v (.sl 24 x2) .no]] => bnd1 (s x0 x1 x2) fun r0 => K [.v (.str r0) .no]
  | _ => none
noncomputable def r_atext (rs : List D) (_ : Mem) : Option (List UInt8) :=
  match rs with
  | [.v (.str r0) _] => some (r0)
  | _ => none
noncomputable def F_atext_8 {R : Type} (N : Nat) (f : Int → Int → List V → Option (List UInt8)) (vs1 : List V) (n2 : Int) (n4 : Int) (n5 : Int) (vs6 : List V) (l7 : List UInt8) (b8 : Bool) (b9 : Bool) (n10 : Int) (n11 : Int) (Lq : List V → Int → Option R) (K0 : List V → Option R) (vs0 : List V) (n3 : Int) : Option R :=
  br (decide (n3 < n2))
  (br (decide (0 ≤ n3) && decide (n3 < (↑vs1.length : Int)))
    (at? vs1 n3.toNat fun x0 =>
      x0.unAgg fun l1 =>
        unCons l1 fun x2 l3 =>
          V.unInt IntKind.i64 x2 fun n4 =>
            unCons l3 fun x5 l6 =>
              V.unInt IntKind.i64 x5 fun n7 =>
                unCons l6 fun x8 l9 => V.unSl 24 x8 fun l10 => unNil l9 (bnd1 (f n4 n7 l10) fun l11 => br (decide ((vs0.length + [V.str l11].length) * 16 ≤ 140737488355328)) (Lq (vs0 ++ [V.str l11]) (IntKind.i64.wrap (n3 + 1))) none))
    none)
  (K0 vs0)
noncomputable def S_atext_8 {R : Type} (N : Nat) (f : Int → Int → List V → Option (List UInt8)) (vs1 : List V) (n2 : Int) (n4 : Int) (n5 : Int) (vs6 : List V) (l7 : List UInt8) (b8 : Bool) (b9 : Bool) (n10 : Int) (n11 : Int) : Nat → List V → Int → (List V → Option R) → Option R
  | 0, _, _, _ => none
  | t + 1, vs0, n3, K0 => F_atext_8 N f vs1 n2 n4 n5 vs6 l7 b8 b9 n10 n11 (fun vs0 n3 => S_atext_8 N f vs1 n2 n4 n5 vs6 l7 b8 b9 n10 n11 t vs0 n3 K0) K0 vs0 n3
noncomputable def l_atext_8 {R : Type} (N : Nat) (f : Int → Int → List V → Option (List UInt8)) (ds : List D) (m : Mem) (K : Ex → List D → Mem → Option R) : Option R :=
  match ds, m with
  | [(.ptr 0 1 0), (.ptr 0 3 0), (.v (.sl 9 vs0) (.own (.slot 4) 9)), (.v (.sl 24 vs1) .no), (.v (.int .i64 n2) .no), (.v (.int .i64 n3) .no)], [[(1, ⟨24, [(.v (.int .i64 n4) .no), (.v (.int .i64 n5) .no), (.v (.sl 24 vs6) .no)]⟩), (3, ⟨79, [(.v (.str l7) .no), (.v (.bool b8) .no), (.v (.bool b9) .no), (.v (.int .i64 n10) .no), (.v (.int .i64 n11) .no)]⟩)]] => S_atext_8 N f vs1 n2 n4 n5 vs6 l7 b8 b9 n10 n11 N vs0 n3 (fun a0 => K (.exit 1) [(.ptr 0 1 0), (.ptr 0 3 0), (.v (.sl 9 a0) (.own (.slot 4) 9))] [[(1, ⟨24, [(.v (.int .i64 n4) .no), (.v (.int .i64 n5) .no), (.v (.sl 24 vs6) .no)]⟩), (3, ⟨79, [(.v (.str l7) .no), (.v (.bool b8) .no), (.v (.bool b9) .no), (.v (.int .i64 n10) .no), (.v (.int .i64 n11) .no)]⟩)]])
  | _, _ => none
noncomputable def B_atext (N : Nat) (f : Int → Int → List V → Option (List UInt8)) (x0 : Int) (x1 : Int) (x2 : List V) : Option (List UInt8) :=
  bnd1 (s_forms N) fun x0_1 =>
  br (decide (x0 = 0)) (some ([110, 101, 118, 101, 114] : List UInt8))
    (br (decide (x0 = 1)) (some ([97, 108, 119, 97, 121, 115] : List UInt8))
      (br (decide (x0 = 2)) (bnd1 (s_Itoa N x1) fun l1 => br (decide (4 + l1.length ≤ 9223372036854775807)) (some (112 :: 105 :: 110 :: 32 :: [].append l1)) none)
        (br (decide (x0 = 3)) (bnd1 (s_Itoa N x1) fun l2 => br (decide (4 + l2.length ≤ 9223372036854775807)) (some (107 :: 101 :: 121 :: 32 :: [].append l2)) none)
          (br (decide (x0 = 4)) (bnd1 (s_Itoa N x1) fun l3 => br (decide (6 + l3.length ≤ 9223372036854775807)) (some (115 :: 116 :: 97 :: 116 :: 101 :: 32 :: [].append l3)) none)
            (br (decide (x0 = 5)) (bnd1 (s_Itoa N x1) fun l4 => br (decide (6 + l4.length ≤ 9223372036854775807)) (some (108 :: 101 :: 118 :: 101 :: 108 :: 32 :: [].append l4)) none)
              (br (decide (x0 = 6))
                (S_atext_8 N f x2 (↑x2.length : Int) x0 x1 x2 ([97, 110, 100] : List UInt8) false true 0 0 N [] 0 fun l5 =>
                  bnd1 (s_Join N l5 ([44, 32] : List UInt8)) fun l6 =>
                    br (decide (4 + l6.length ≤ 9223372036854775807)) (br (decide ((97 :: 110 :: 100 :: 40 :: [].append l6).length + 1 ≤ 9223372036854775807)) (some (97 :: 110 :: 100 :: 40 :: ([].append l6).append ([41] : List UInt8))) none) none)
                (br (decide (x0 = 7))
                  (S_atext_8 N f x2 (↑x2.length : Int) x0 x1 x2 ([111, 114] : List UInt8) false true 0 0 N [] 0 fun l7 =>
                    bnd1 (s_Join N l7 ([44, 32] : List UInt8)) fun l8 =>
                      br (decide (3 + l8.length ≤ 9223372036854775807)) (br (decide ((111 :: 114 :: 40 :: [].append l8).length + 1 ≤ 9223372036854775807)) (some (111 :: 114 :: 40 :: ([].append l8).append ([41] : List UInt8))) none) none)
                  none)))))))
noncomputable def s_atext (N : Nat) : Nat → Int → Int → List V → Option (List UInt8)
  | 0, _, _, _ => none
  | n + 1, x0, x1, x2 => B_atext N (s_atext N n) x0 x1 x2
noncomputable def cx_atext (N : Nat) (f : Int → Int → List V → Option (List UInt8)) : Cx := { T := T, isPure := tabP [⟨55, e_atext f⟩, ⟨67, e_forms (s_forms N)⟩, ⟨82, e_Itoa (s_Itoa N)⟩, ⟨83, e_Join (s_Join N)⟩], pureK := fun g ds K => tabK [⟨55, e_atext f⟩, ⟨67, e_forms (s_forms N)⟩, ⟨82, e_Itoa (s_Itoa N)⟩, ⟨83, e_Join (s_Join N)⟩] g ds K, memK := fun g dst ds m K => tabMK [] g dst ds m K, meth := tabM [], keep := fun r => match r with | 8 => [1, 3, 4, 28, 29, 30] | _ => [], keepX := fun r => match r with | 8 => [1, 3, 4] | _ => [], loopT := fun r ds m K => match r with | 8 => l_atext_8 N f ds m K | _ => none, jumps := 9 }
theorem F_atext_8_ok {R : Type} (N : Nat) (f : Int → Int → List V → Option (List UInt8)) (vs1 : List V) (n2 : Int) (n4 : Int) (n5 : Int) (vs6 : List V) (l7 : List UInt8) (b8 : Bool) (b9 : Bool) (n10 : Int) (n11 : Int) (vs0 : List V) (n3 : Int) (L : List D → Mem → Option R) (K : Ex → List D → Mem → Option R) :
    roundK (fun st K => codeK (cx_atext N f) (loopN Tryd.f55 0) st K) 47 [1, 3, 4, 28, 29, 30] [1, 3, 4] L [(.ptr 0 1 0), (.ptr 0 3 0), (.v (.sl 9 vs0) (.own (.slot 4) 9)), (.v (.sl 24 vs1) .no), (.v (.int .i64 n2) .no), (.v (.int .i64 n3) .no)] [[(1, ⟨24, [(.v (.int .i64 n4) .no), (.v (.int .i64 n5) .no), (.v (.sl 24 vs6) .no)]⟩), (3, ⟨79, [(.v (.str l7) .no), (.v (.bool b8) .no), (.v (.bool b9) .no), (.v (.int .i64 n10) .no), (.v (.int .i64 n11) .no)]⟩)]] K = F_atext_8 N f vs1 n2 n4 n5 vs6 l7 b8 b9 n10 n11 (fun vs0 n3 => L [(.ptr 0 1 0), (.ptr 0 3 0), (.v (.sl 9 vs0) (.own (.slot 4) 9)), (.v (.sl 24 vs1) .no), (.v (.int .i64 n2) .no), (.v (.int .i64 n3) .no)] [[(1, ⟨24, [(.v (.int .i64 n4) .no), (.v (.int .i64 n5) .no), (.v (.sl 24 vs6) .no)]⟩), (3, ⟨79, [(.v (.str l7) .no), (.v (.bool b8) .no), (.v (.bool b9) .no), (.v (.int .i64 n10) .no), (.v (.int .i64 n11) .no)]⟩)]]) (fun a0 => K (.exit 1) [(.ptr 0 1 0), (.ptr 0 3 0), (.v (.sl 9 a0) (.own (.slot 4) 9))] [[(1, ⟨24, [(.v (.int .i64 n4) .no), (.v (.int .i64 n5) .no), (.v (.sl 24 vs6) .no)]⟩), (3, ⟨79, [(.v (.str l7) .no), (.v (.bool b8) .no), (.v (.bool b9) .no), (.v (.int .i64 n10) .no), (.v (.int .i64 n11) .no)]⟩)]]) vs0 n3 := by
  kernel_rfl
theorem S_atext_8_ok {R : Type} (N : Nat) (f : Int → Int → List V → Option (List UInt8)) (vs1 : List V) (n2 : Int) (n4 : Int) (n5 : Int) (vs6 : List V) (l7 : List UInt8) (b8 : Bool) (b9 : Bool) (n10 : Int) (n11 : Int) (K : Ex → List D → Mem → Option R) : ∀ (t : Nat) (vs0 : List V) (n3 : Int),
    loopK (fun st K => codeK (cx_atext N f) (loopN Tryd.f55 0) st K) 47 [1, 3, 4, 28, 29, 30] [1, 3, 4] t [(.ptr 0 1 0), (.ptr 0 3 0), (.v (.sl 9 vs0) (.own (.slot 4) 9)), (.v (.sl 24 vs1) .no), (.v (.int .i64 n2) .no), (.v (.int .i64 n3) .no)] [[(1, ⟨24, [(.v (.int .i64 n4) .no), (.v (.int .i64 n5) .no), (.v (.sl 24 vs6) .no)]⟩), (3, ⟨79, [(.v (.str l7) .no), (.v (.bool b8) .no), (.v (.bool b9) .no), (.v (.int .i64 n10) .no), (.v (.int .i64 n11) .no)]⟩)]] K = S_atext_8 N f vs1 n2 n4 n5 vs6 l7 b8 b9 n10 n11 t vs0 n3 (fun a0 => K (.exit 1) [(.ptr 0 1 0), (.ptr 0 3 0), (.v (.sl 9 a0) (.own (.slot 4) 9))] [[(1, ⟨24, [(.v (.int .i64 n4) .no), (.v (.int .i64 n5) .no), (.v (.sl 24 vs6) .no)]⟩), (3, ⟨79, [(.v (.str l7) .no), (.v (.bool b8) .no), (.v (.bool b9) .no), (.v (.int .i64 n10) .no), (.v (.int .i64 n11) .no)]⟩)]])
  | 0, vs0, n3 => rfl
  | t + 1, vs0, n3 => (F_atext_8_ok N f vs1 n2 n4 n5 vs6 l7 b8 b9 n10 n11 vs0 n3 _ K).trans (congrArg (fun L => F_atext_8 N f vs1 n2 n4 n5 vs6 l7 b8 b9 n10 n11 L (fun a0 => K (.exit 1) [(.ptr 0 1 0), (.ptr 0 3 0), (.v (.sl 9 a0) (.own (.slot 4) 9))] [[(1, ⟨24, [(.v (.int .i64 n4) .no), (.v (.int .i64 n5) .no), (.v (.sl 24 vs6) .no)]⟩), (3, ⟨79, [(.v (.str l7) .no), (.v (.bool b8) .no), (.v (.bool b9) .no), (.v (.int .i64 n10) .no), (.v (.int .i64 n11) .no)]⟩)]]) vs0 n3) (funext fun vs0 => funext fun n3 => S_atext_8_ok N f vs1 n2 n4 n5 vs6 l7 b8 b9 n10 n11 K t vs0 n3))
theorem B_atext_ok (N : Nat) (f : Int → Int → List V → Option (List UInt8)) (x0 : Int) (x1 : Int) (x2 : List V) : bodyK (cx_atext N f) Tryd.f55 [.agg [.v (.int .i64 x0) .no, .v (.int .i64 x1) .no, .v (.sl 24 x2) .no]] [] r_atext = B_atext N f x0 x1 x2 := by
  kernel_rfl
theorem go_atext : Goes Tryd.prog 55 := goes_of Tryd.func55 (by kernel_rfl) (c := bodyOf Tryd.f55) (by kernel_rfl)
theorem eo_atext (s : Int → Int → List V → Option (List UInt8)) (hs : ∀ (x0 : Int) (x1 : Int) (x2 : List V) (r0 : List UInt8), s x0 x1 x2 = some r0 → PureRet Tryd.prog T 55 [.agg [.v (.int .i64 x0) .no, .v (.int .i64 x1) .no, .v (.sl 24 x2) .no]] [.v (.str r0) .no]) : EntOK Tryd.prog T ⟨55, e_atext s⟩ := by
  refine ⟨go_atext, fun R ds K r h => ?_, fun R ds K => ?_⟩
  · simp only [e_atext] at h
    split at h
    · obtain ⟨r0, h1, h2⟩ := bnd1_some h
      exact ⟨_, h2, hs _ _ _ _ h1⟩
    · cases h
  · simp only [e_atext]
    split
    · rw [bnd1_b]; rfl
    · rfl
theorem co_atext (N : Nat) (f : Int → Int → List V → Option (List UInt8)) (hf : ∀ (x0 : Int) (x1 : Int) (x2 : List V) (r0 : List UInt8), f x0 x1 x2 = some r0 → PureRet Tryd.prog T 55 [.agg [.v (.int .i64 x0) .no, .v (.int .i64 x1) .no, .v (.sl 24 x2) .no]] [.v (.str r0) .no]) : CxOK Tryd.prog (cx_atext N f) :=
  cxOK_of2 (es := [⟨55, e_atext f⟩, ⟨67, e_forms (s_forms N)⟩, ⟨82, e_Itoa (s_Itoa N)⟩, ⟨83, e_Join (s_Join N)⟩]) (me := []) (ms := []) T_ok ⟨eo_atext f hf, eo_forms _ (p_forms N), eo_Itoa _ (p_Itoa N), eo_Join _ (p_Join N), trivial⟩ trivial trivial rfl (fun _ _ _ _ => rfl) (fun _ _ _ _ _ _ => rfl) rfl
theorem lk_atext_8 (N : Nat) (f : Int → Int → List V → Option (List UInt8)) : LoopOK (cx_atext N f) 47 (loopN Tryd.f55 0) := by
  refine loopOK_of (rid := 8) (by kernel_rfl) rfl rfl fun R ds m K r h => ?_
  have h : l_atext_8 N f ds m K = some r := h
  unfold l_atext_8 at h
  split at h
  · exact ⟨N, Eq.trans (S_atext_8_ok ..) h⟩
  · cases h
theorem lo_atext (N : Nat) (f : Int → Int → List V → Option (List UInt8)) : LoopsOK (cx_atext N f) Tryd.f55.ntmps (bodyOf Tryd.f55) :=
  loopsOK_of (k := 1) (by kernel_rfl) ⟨trivial, lk_atext_8 N f⟩
theorem p_atext (N : Nat) : ∀ (M : Nat) (x0 : Int) (x1 : Int) (x2 : List V) (r0 : List UInt8), s_atext N M x0 x1 x2 = some r0 → PureRet Tryd.prog T 55 [.agg [.v (.int .i64 x0) .no, .v (.int .i64 x1) .no, .v (.sl 24 x2) .no]] [.v (.str r0) .no]
  | 0, _, _, _, _, h => by cases h
  | M + 1, x0, x1, x2, r0, h => pure_of (cx := cx_atext N (s_atext N M)) (by kernel_rfl) (co_atext N (s_atext N M) (p_atext N M)) Tryd.func55 (by kernel_rfl) (by kernel_rfl) (lo_atext N (s_atext N M)) rfl rfl rfl (rf := r_atext) ((B_atext_ok N (s_atext N M) x0 x1 x2).trans h) (fun rs' m h => by
    unfold r_atext at h
    split at h
    · cases h; exact ⟨rfl, rfl⟩
    · cases h)
noncomputable def e_aText {R : Type} (s : Int → Int → List V → Option (List UInt8)) (ds : List D) (K : List D → Option R) : Option R :=
  match ds with
  | [.agg [.v (.int .i64 x0) .no, .v (.int .i64 x1) .no, .v (.sl 24 x2) .no]] => bnd1 (s x0 x1 x2) fun r0 => K [.v (.str r0) .no]
  | _ => none
noncomputable def r_aText (rs : List D) (_ : Mem) : Option (List UInt8) :=
  match rs with
  | [.v (.str r0) _] => some (r0)
  | _ => none
noncomputable def s_aText (N : Nat) (x0 : Int) (x1 : Int) (x2 : List V) : Option (List UInt8) :=
  bnd1 (s_aCheck N x0 x1 x2) fun n0 => br (!decide (n0 = 0)) (some []) (bnd1 (s_atext N N x0 x1 x2) fun l1 => some l1)
noncomputable def cx_aText (N : Nat) : Cx := { T := T, isPure := tabP [⟨17, e_aCheck (s_aCheck N)⟩, ⟨55, e_atext (s_atext N N)⟩], pureK := fun g ds K => tabK [⟨17, e_aCheck (s_aCheck N)⟩, ⟨55, e_atext (s_atext N N)⟩] g ds K, memK := fun g dst ds m K => tabMK [] g dst ds m K, meth := tabM [], keep := fun _ => [], keepX := fun _ => [], loopT := fun _ _ _ _ => none, jumps := 9 }
theorem s_aText_ok (N : Nat) (x0 : Int) (x1 : Int) (x2 : List V) : bodyK (cx_aText N) Tryd.f27 [.agg [.v (.int .i64 x0) .no, .v (.int .i64 x1) .no, .v (.sl 24 x2) .no]] [] r_aText = s_aText N x0 x1 x2 := by
  kernel_rfl
theorem go_aText : Goes Tryd.prog 27 := goes_of Tryd.func27 (by kernel_rfl) (c := bodyOf Tryd.f27) (by kernel_rfl)
theorem eo_aText (s : Int → Int → List V → Option (List UInt8)) (hs : ∀ (x0 : Int) (x1 : Int) (x2 : List V) (r0 : List UInt8), s x0 x1 x2 = some r0 → PureRet Tryd.prog T 27 [.agg [.v (.int .i64 x0) .no, .v (.int .i64 x1) .no, .v (.sl 24 x2) .no]] [.v (.str r0) .no]) : EntOK Tryd.prog T ⟨27, e_aText s⟩ := by
  refine ⟨go_aText, fun R ds K r h => ?_, fun R ds K => ?_⟩
  · simp only [e_aText] at h
    split at h
    · obtain ⟨r0, h1, h2⟩ := bnd1_some h
      exact ⟨_, h2, hs _ _ _ _ h1⟩
    · cases h
  · simp only [e_aText]
    split
    · rw [bnd1_b]; rfl
    · rfl
theorem co_aText (N : Nat) : CxOK Tryd.prog (cx_aText N) :=
  cxOK_of2 (es := [⟨17, e_aCheck (s_aCheck N)⟩, ⟨55, e_atext (s_atext N N)⟩]) (me := []) (ms := []) T_ok ⟨eo_aCheck _ (p_aCheck N), eo_atext _ (p_atext N N), trivial⟩ trivial trivial rfl (fun _ _ _ _ => rfl) (fun _ _ _ _ _ _ => rfl) rfl
theorem lo_aText (N : Nat) : LoopsOK (cx_aText N) Tryd.f27.ntmps (bodyOf Tryd.f27) :=
  loopsOK_of (k := 0) (by kernel_rfl) trivial
theorem p_aText (N : Nat) (x0 : Int) (x1 : Int) (x2 : List V) (r0 : List UInt8) (h : s_aText N x0 x1 x2 = some r0) : PureRet Tryd.prog T 27 [.agg [.v (.int .i64 x0) .no, .v (.int .i64 x1) .no, .v (.sl 24 x2) .no]] [.v (.str r0) .no] :=
  pure_of (cx := cx_aText N) (by kernel_rfl) (co_aText N) Tryd.func27 (by kernel_rfl) (by kernel_rfl) (lo_aText N) rfl rfl rfl (rf := r_aText) ((s_aText_ok N x0 x1 x2).trans h) (fun rs' m h => by
    unfold r_aText at h
    split at h
    · cases h; exact ⟨rfl, rfl⟩
    · cases h)
noncomputable def e_works {R : Type} (s : Option (Bool)) (ds : List D) (K : List D → Option R) : Option R :=
  match ds with
  | [] => bnd1 (s) fun r0 => K [.v (.bool r0) .no]
  | _ => none
noncomputable def r_works (rs : List D) (_ : Mem) : Option (Bool) :=
  match rs with
  | [.v (.bool r0) _] => some (r0)
  | _ => none
noncomputable def s_works (N : Nat)  : Option (Bool) :=
  bnd2
  (s_aEncode N
    [V.agg
        [V.int IntKind.i64 3, V.int IntKind.i64 6, V.int IntKind.i64 0,
          V.sl 24
            [V.agg [V.int IntKind.i64 2, V.int IntKind.i64 1, V.sl 24 []],
              V.agg [V.int IntKind.i64 7, V.int IntKind.i64 0, V.sl 24 [V.agg [V.int IntKind.i64 3, V.int IntKind.i64 2, V.sl 24 []], V.agg [V.int IntKind.i64 4, V.int IntKind.i64 3, V.sl 24 []]]]]]])
  fun l0 n1 =>
  bnd1
    (s_aHolds N 6 0
      [V.agg [V.int IntKind.i64 2, V.int IntKind.i64 1, V.sl 24 []],
        V.agg [V.int IntKind.i64 7, V.int IntKind.i64 0, V.sl 24 [V.agg [V.int IntKind.i64 3, V.int IntKind.i64 2, V.sl 24 []], V.agg [V.int IntKind.i64 4, V.int IntKind.i64 3, V.sl 24 []]]]]
      2 4 0 0)
    fun b2 =>
    br b2
      (bnd1
        (s_aHolds N 6 0
          [V.agg [V.int IntKind.i64 2, V.int IntKind.i64 1, V.sl 24 []],
            V.agg [V.int IntKind.i64 7, V.int IntKind.i64 0, V.sl 24 [V.agg [V.int IntKind.i64 3, V.int IntKind.i64 2, V.sl 24 []], V.agg [V.int IntKind.i64 4, V.int IntKind.i64 3, V.sl 24 []]]]]
          2 0 4 0)
        fun b3 =>
        br b3
          (bnd1
            (s_aHolds N 6 0
              [V.agg [V.int IntKind.i64 2, V.int IntKind.i64 1, V.sl 24 []],
                V.agg [V.int IntKind.i64 7, V.int IntKind.i64 0, V.sl 24 [V.agg [V.int IntKind.i64 3, V.int IntKind.i64 2, V.sl 24 []], V.agg [V.int IntKind.i64 4, V.int IntKind.i64 3, V.sl 24 []]]]]
              1 0 0 0)
            fun b4 =>
            br (!b4)
              (br (decide (n1 = 0))
                (br (decide (l0.length ≤ 9223372036854775807))
                  (br (decide (l0 = ([128, 11, 3, 6, 2, 2, 1, 7, 2, 3, 2, 4, 3] : List UInt8)))
                    (bnd1
                      (s_aText N 6 0
                        [V.agg [V.int IntKind.i64 2, V.int IntKind.i64 1, V.sl 24 []],
                          V.agg [V.int IntKind.i64 7, V.int IntKind.i64 0, V.sl 24 [V.agg [V.int IntKind.i64 3, V.int IntKind.i64 2, V.sl 24 []], V.agg [V.int IntKind.i64 4, V.int IntKind.i64 3, V.sl 24 []]]]])
                      fun l5 =>
                      br (decide (l5 = ([97, 110, 100, 40, 112, 105, 110, 32, 49, 44, 32, 111, 114, 40, 107, 101, 121, 32, 50, 44, 32, 115, 116, 97, 116, 101, 32, 51, 41, 41] : List UInt8)))
                        (bnd1 (s_Implies N 4 3 [] 4 2 []) fun b6 => br b6 (bnd1 (s_Implies N 2 1 [] 3 2 []) fun b7 => some !b7) (some false)) (some false))
                    (some false))
                  none)
                (some false))
              (some false))
          (some false))
      (some false)
noncomputable def cx_works (N : Nat) : Cx := { T := T, isPure := tabP [⟨25, e_aEncode (s_aEncode N)⟩, ⟨19, e_aHolds (s_aHolds N)⟩, ⟨27, e_aText (s_aText N)⟩, ⟨22, e_Implies (s_Implies N)⟩], pureK := fun g ds K => tabK [⟨25, e_aEncode (s_aEncode N)⟩, ⟨19, e_aHolds (s_aHolds N)⟩, ⟨27, e_aText (s_aText N)⟩, ⟨22, e_Implies (s_Implies N)⟩] g ds K, memK := fun g dst ds m K => tabMK [] g dst ds m K, meth := tabM [], keep := fun _ => [], keepX := fun _ => [], loopT := fun _ _ _ _ => none, jumps := 9 }
theorem s_works_ok (N : Nat)  : bodyK (cx_works N) Tryd.f16 [] [] r_works = s_works N  := by
  kernel_rfl
theorem go_works : Goes Tryd.prog 16 := goes_of Tryd.func16 (by kernel_rfl) (c := bodyOf Tryd.f16) (by kernel_rfl)
theorem eo_works (s : Option (Bool)) (hs : ∀  (r0 : Bool), s  = some r0 → PureRet Tryd.prog T 16 [] [.v (.bool r0) .no]) : EntOK Tryd.prog T ⟨16, e_works s⟩ := by
  refine ⟨go_works, fun R ds K r h => ?_, fun R ds K => ?_⟩
  · simp only [e_works] at h
    split at h
    · obtain ⟨r0, h1, h2⟩ := bnd1_some h
      exact ⟨_, h2, hs _ h1⟩
    · cases h
  · simp only [e_works]
    split
    · rw [bnd1_b]; rfl
    · rfl
theorem co_works (N : Nat) : CxOK Tryd.prog (cx_works N) :=
  cxOK_of2 (es := [⟨25, e_aEncode (s_aEncode N)⟩, ⟨19, e_aHolds (s_aHolds N)⟩, ⟨27, e_aText (s_aText N)⟩, ⟨22, e_Implies (s_Implies N)⟩]) (me := []) (ms := []) T_ok ⟨eo_aEncode _ (p_aEncode N), eo_aHolds _ (p_aHolds N), eo_aText _ (p_aText N), eo_Implies _ (p_Implies N), trivial⟩ trivial trivial rfl (fun _ _ _ _ => rfl) (fun _ _ _ _ _ _ => rfl) rfl
theorem lo_works (N : Nat) : LoopsOK (cx_works N) Tryd.f16.ntmps (bodyOf Tryd.f16) :=
  loopsOK_of (k := 0) (by kernel_rfl) trivial
theorem p_works (N : Nat)  (r0 : Bool) (h : s_works N  = some r0) : PureRet Tryd.prog T 16 [] [.v (.bool r0) .no] :=
  pure_of (cx := cx_works N) (by kernel_rfl) (co_works N) Tryd.func16 (by kernel_rfl) (by kernel_rfl) (lo_works N) rfl rfl rfl (rf := r_works) ((s_works_ok N ).trans h) (fun rs' m h => by
    unfold r_works at h
    split at h
    · cases h; exact ⟨rfl, rfl⟩
    · cases h)
noncomputable def r_wEncodes (rs : List D) (_ : Mem) : Option (Bool) :=
  match rs with
  | [.v (.bool r0) _] => some (r0)
  | _ => none
noncomputable def s_wEncodes (N : Nat) (x0 : List V) : Option (Bool) :=
  bnd1 (s_lfewRules N x0) fun b0 =>
  br (!b0) (bnd1 (s_works N) fun b1 => some b1)
    (bnd2 (s_aEncode N x0) fun l2 n3 =>
      bnd2 (s_qEncode N x0) fun l4 n5 =>
        br (decide (n3 = n5)) (br (decide (l2.length ≤ 9223372036854775807)) (br (decide (l4.length ≤ 9223372036854775807)) (br (decide (l2 = l4)) (bnd1 (s_works N) fun b6 => some b6) (some false)) none) none) (some false))
noncomputable def cx_wEncodes (N : Nat) : Cx := { T := T, isPure := tabP [⟨24, e_lfewRules (s_lfewRules N)⟩, ⟨16, e_works (s_works N)⟩, ⟨25, e_aEncode (s_aEncode N)⟩, ⟨26, e_qEncode (s_qEncode N)⟩], pureK := fun g ds K => tabK [⟨24, e_lfewRules (s_lfewRules N)⟩, ⟨16, e_works (s_works N)⟩, ⟨25, e_aEncode (s_aEncode N)⟩, ⟨26, e_qEncode (s_qEncode N)⟩] g ds K, memK := fun g dst ds m K => tabMK [] g dst ds m K, meth := tabM [], keep := fun _ => [], keepX := fun _ => [], loopT := fun _ _ _ _ => none, jumps := 9 }
theorem s_wEncodes_ok (N : Nat) (x0 : List V) : bodyK (cx_wEncodes N) Tryd.f8 [.v (.sl 53 x0) .no] [] r_wEncodes = s_wEncodes N x0 := by
  kernel_rfl
theorem co_wEncodes (N : Nat) : CxOK Tryd.prog (cx_wEncodes N) :=
  cxOK_of2 (es := [⟨24, e_lfewRules (s_lfewRules N)⟩, ⟨16, e_works (s_works N)⟩, ⟨25, e_aEncode (s_aEncode N)⟩, ⟨26, e_qEncode (s_qEncode N)⟩]) (me := []) (ms := []) T_ok ⟨eo_lfewRules _ (p_lfewRules N), eo_works _ (p_works N), eo_aEncode _ (p_aEncode N), eo_qEncode _ (p_qEncode N), trivial⟩ trivial trivial rfl (fun _ _ _ _ => rfl) (fun _ _ _ _ _ _ => rfl) rfl
theorem lo_wEncodes (N : Nat) : LoopsOK (cx_wEncodes N) Tryd.f8.ntmps (bodyOf Tryd.f8) :=
  loopsOK_of (k := 0) (by kernel_rfl) trivial
theorem p_wEncodes (N : Nat) (x0 : List V) (r0 : Bool) (h : s_wEncodes N x0 = some r0) : PureRet Tryd.prog T 8 [.v (.sl 53 x0) .no] [.v (.bool r0) .no] :=
  pure_of (cx := cx_wEncodes N) (by kernel_rfl) (co_wEncodes N) Tryd.func8 (by kernel_rfl) (by kernel_rfl) (lo_wEncodes N) rfl rfl rfl (rf := r_wEncodes) ((s_wEncodes_ok N x0).trans h) (fun rs' m h => by
    unfold r_wEncodes at h
    split at h
    · cases h; exact ⟨rfl, rfl⟩
    · cases h)
noncomputable def r_wDecodes (rs : List D) (_ : Mem) : Option (Bool) :=
  match rs with
  | [.v (.bool r0) _] => some (r0)
  | _ => none
noncomputable def s_wDecodes (N : Nat) (x0 : List UInt8) : Option (Bool) :=
  br (decide (1000 < (↑x0.length : Int))) (bnd1 (s_works N) fun b0 => some b0)
  (bnd2 (s_aDecode N x0) fun l1 n2 => bnd2 (s_qDecode N x0) fun l3 n4 => br (decide (n2 = n4)) (bnd1 (s_qSame N l1 l3) fun b5 => br b5 (bnd1 (s_works N) fun b6 => some b6) (some false)) (some false))
noncomputable def cx_wDecodes (N : Nat) : Cx := { T := T, isPure := tabP [⟨16, e_works (s_works N)⟩, ⟨36, e_aDecode (s_aDecode N)⟩, ⟨37, e_qDecode (s_qDecode N)⟩, ⟨35, e_qSame (s_qSame N)⟩], pureK := fun g ds K => tabK [⟨16, e_works (s_works N)⟩, ⟨36, e_aDecode (s_aDecode N)⟩, ⟨37, e_qDecode (s_qDecode N)⟩, ⟨35, e_qSame (s_qSame N)⟩] g ds K, memK := fun g dst ds m K => tabMK [] g dst ds m K, meth := tabM [], keep := fun _ => [], keepX := fun _ => [], loopT := fun _ _ _ _ => none, jumps := 9 }
theorem s_wDecodes_ok (N : Nat) (x0 : List UInt8) : bodyK (cx_wDecodes N) Tryd.f13 [.v (.bytes x0) .no] [] r_wDecodes = s_wDecodes N x0 := by
  kernel_rfl
theorem co_wDecodes (N : Nat) : CxOK Tryd.prog (cx_wDecodes N) :=
  cxOK_of2 (es := [⟨16, e_works (s_works N)⟩, ⟨36, e_aDecode (s_aDecode N)⟩, ⟨37, e_qDecode (s_qDecode N)⟩, ⟨35, e_qSame (s_qSame N)⟩]) (me := []) (ms := []) T_ok ⟨eo_works _ (p_works N), eo_aDecode _ (p_aDecode N), eo_qDecode _ (p_qDecode N), eo_qSame _ (p_qSame N), trivial⟩ trivial trivial rfl (fun _ _ _ _ => rfl) (fun _ _ _ _ _ _ => rfl) rfl
theorem lo_wDecodes (N : Nat) : LoopsOK (cx_wDecodes N) Tryd.f13.ntmps (bodyOf Tryd.f13) :=
  loopsOK_of (k := 0) (by kernel_rfl) trivial
theorem p_wDecodes (N : Nat) (x0 : List UInt8) (r0 : Bool) (h : s_wDecodes N x0 = some r0) : PureRet Tryd.prog T 13 [.v (.bytes x0) .no] [.v (.bool r0) .no] :=
  pure_of (cx := cx_wDecodes N) (by kernel_rfl) (co_wDecodes N) Tryd.func13 (by kernel_rfl) (by kernel_rfl) (lo_wDecodes N) rfl rfl rfl (rf := r_wDecodes) ((s_wDecodes_ok N x0).trans h) (fun rs' m h => by
    unfold r_wDecodes at h
    split at h
    · cases h; exact ⟨rfl, rfl⟩
    · cases h)
noncomputable def r_wCompares (rs : List D) (_ : Mem) : Option (Bool) :=
  match rs with
  | [.v (.bool r0) _] => some (r0)
  | _ => none
noncomputable def s_wCompares (N : Nat) (x0 : List V) (x1 : List V) : Option (Bool) :=
  bnd1 (s_lfewRules N x0) fun b0 =>
  br (!b0) (bnd1 (s_works N) fun b1 => some b1)
    (bnd1 (s_lfewRules N x1) fun b2 =>
      br (!b2) (bnd1 (s_works N) fun b3 => some b3) (bnd1 (s_aSame N x0 x1) fun b4 => bnd1 (s_qSame N x0 x1) fun b5 => br (b4 == b5) (bnd1 (s_aSame N x0 x0) fun b6 => br b6 (bnd1 (s_works N) fun b7 => some b7) (some false)) (some false)))
noncomputable def cx_wCompares (N : Nat) : Cx := { T := T, isPure := tabP [⟨24, e_lfewRules (s_lfewRules N)⟩, ⟨16, e_works (s_works N)⟩, ⟨34, e_aSame (s_aSame N)⟩, ⟨35, e_qSame (s_qSame N)⟩], pureK := fun g ds K => tabK [⟨24, e_lfewRules (s_lfewRules N)⟩, ⟨16, e_works (s_works N)⟩, ⟨34, e_aSame (s_aSame N)⟩, ⟨35, e_qSame (s_qSame N)⟩] g ds K, memK := fun g dst ds m K => tabMK [] g dst ds m K, meth := tabM [], keep := fun _ => [], keepX := fun _ => [], loopT := fun _ _ _ _ => none, jumps := 9 }
theorem s_wCompares_ok (N : Nat) (x0 : List V) (x1 : List V) : bodyK (cx_wCompares N) Tryd.f12 [.v (.sl 53 x0) .no, .v (.sl 53 x1) .no] [] r_wCompares = s_wCompares N x0 x1 := by
  kernel_rfl
theorem co_wCompares (N : Nat) : CxOK Tryd.prog (cx_wCompares N) :=
  cxOK_of2 (es := [⟨24, e_lfewRules (s_lfewRules N)⟩, ⟨16, e_works (s_works N)⟩, ⟨34, e_aSame (s_aSame N)⟩, ⟨35, e_qSame (s_qSame N)⟩]) (me := []) (ms := []) T_ok ⟨eo_lfewRules _ (p_lfewRules N), eo_works _ (p_works N), eo_aSame _ (p_aSame N), eo_qSame _ (p_qSame N), trivial⟩ trivial trivial rfl (fun _ _ _ _ => rfl) (fun _ _ _ _ _ _ => rfl) rfl
theorem lo_wCompares (N : Nat) : LoopsOK (cx_wCompares N) Tryd.f12.ntmps (bodyOf Tryd.f12) :=
  loopsOK_of (k := 0) (by kernel_rfl) trivial
theorem p_wCompares (N : Nat) (x0 : List V) (x1 : List V) (r0 : Bool) (h : s_wCompares N x0 x1 = some r0) : PureRet Tryd.prog T 12 [.v (.sl 53 x0) .no, .v (.sl 53 x1) .no] [.v (.bool r0) .no] :=
  pure_of (cx := cx_wCompares N) (by kernel_rfl) (co_wCompares N) Tryd.func12 (by kernel_rfl) (by kernel_rfl) (lo_wCompares N) rfl rfl rfl (rf := r_wCompares) ((s_wCompares_ok N x0 x1).trans h) (fun rs' m h => by
    unfold r_wCompares at h
    split at h
    · cases h; exact ⟨rfl, rfl⟩
    · cases h)
noncomputable def r_wBack (rs : List D) (_ : Mem) : Option (Bool) :=
  match rs with
  | [.v (.bool r0) _] => some (r0)
  | _ => none
noncomputable def s_wBack (N : Nat) (x0 : List V) (x1 : List UInt8) : Option (Bool) :=
  bnd1 (s_lfewRules N x0) fun b0 =>
  br (!b0) (bnd1 (s_works N) fun b1 => some b1)
    (br (decide (1000 < (↑x1.length : Int))) (bnd1 (s_works N) fun b2 => some b2)
      (bnd2 (s_aEncode N x0) fun l3 n4 =>
        br (decide (n4 = 0))
          (bnd2 (s_aDecode N l3) fun l5 n6 =>
            br (!decide (n6 = 0)) (some false)
              (bnd1 (s_qSame N l5 x0) fun b7 =>
                br (!b7) (some false)
                  (bnd2 (s_aDecode N x1) fun l8 n9 =>
                    br (decide (n9 = 0))
                      (bnd2 (s_aEncode N l8) fun l10 n11 =>
                        br (!decide (n11 = 0)) (some false)
                          (br (decide (l10.length ≤ 9223372036854775807))
                            (br (decide (x1.length ≤ 9223372036854775807)) (br (!decide (l10 = x1)) (some false) (bnd1 (s_aCheckRules N l8) fun n12 => br (!decide (n12 = 0)) (some false) (bnd1 (s_works N) fun b13 => some b13))) none) none))
                      (bnd1 (s_works N) fun b14 => some b14))))
          (bnd2 (s_aDecode N x1) fun l15 n16 =>
            br (decide (n16 = 0))
              (bnd2 (s_aEncode N l15) fun l17 n18 =>
                br (!decide (n18 = 0)) (some false)
                  (br (decide (l17.length ≤ 9223372036854775807))
                    (br (decide (x1.length ≤ 9223372036854775807)) (br (!decide (l17 = x1)) (some false) (bnd1 (s_aCheckRules N l15) fun n19 => br (!decide (n19 = 0)) (some false) (bnd1 (s_works N) fun b20 => some b20))) none) none))
              (bnd1 (s_works N) fun b21 => some b21))))
noncomputable def cx_wBack (N : Nat) : Cx := { T := T, isPure := tabP [⟨24, e_lfewRules (s_lfewRules N)⟩, ⟨16, e_works (s_works N)⟩, ⟨25, e_aEncode (s_aEncode N)⟩, ⟨36, e_aDecode (s_aDecode N)⟩, ⟨35, e_qSame (s_qSame N)⟩, ⟨30, e_aCheckRules (s_aCheckRules N)⟩], pureK := fun g ds K => tabK [⟨24, e_lfewRules (s_lfewRules N)⟩, ⟨16, e_works (s_works N)⟩, ⟨25, e_aEncode (s_aEncode N)⟩, ⟨36, e_aDecode (s_aDecode N)⟩, ⟨35, e_qSame (s_qSame N)⟩, ⟨30, e_aCheckRules (s_aCheckRules N)⟩] g ds K, memK := fun g dst ds m K => tabMK [] g dst ds m K, meth := tabM [], keep := fun _ => [], keepX := fun _ => [], loopT := fun _ _ _ _ => none, jumps := 9 }
theorem s_wBack_ok (N : Nat) (x0 : List V) (x1 : List UInt8) : bodyK (cx_wBack N) Tryd.f14 [.v (.sl 53 x0) .no, .v (.bytes x1) .no] [] r_wBack = s_wBack N x0 x1 := by
  kernel_rfl
theorem co_wBack (N : Nat) : CxOK Tryd.prog (cx_wBack N) :=
  cxOK_of2 (es := [⟨24, e_lfewRules (s_lfewRules N)⟩, ⟨16, e_works (s_works N)⟩, ⟨25, e_aEncode (s_aEncode N)⟩, ⟨36, e_aDecode (s_aDecode N)⟩, ⟨35, e_qSame (s_qSame N)⟩, ⟨30, e_aCheckRules (s_aCheckRules N)⟩]) (me := []) (ms := []) T_ok ⟨eo_lfewRules _ (p_lfewRules N), eo_works _ (p_works N), eo_aEncode _ (p_aEncode N), eo_aDecode _ (p_aDecode N), eo_qSame _ (p_qSame N), eo_aCheckRules _ (p_aCheckRules N), trivial⟩ trivial trivial rfl (fun _ _ _ _ => rfl) (fun _ _ _ _ _ _ => rfl) rfl
theorem lo_wBack (N : Nat) : LoopsOK (cx_wBack N) Tryd.f14.ntmps (bodyOf Tryd.f14) :=
  loopsOK_of (k := 0) (by kernel_rfl) trivial
theorem p_wBack (N : Nat) (x0 : List V) (x1 : List UInt8) (r0 : Bool) (h : s_wBack N x0 x1 = some r0) : PureRet Tryd.prog T 14 [.v (.sl 53 x0) .no, .v (.bytes x1) .no] [.v (.bool r0) .no] :=
  pure_of (cx := cx_wBack N) (by kernel_rfl) (co_wBack N) Tryd.func14 (by kernel_rfl) (by kernel_rfl) (lo_wBack N) rfl rfl rfl (rf := r_wBack) ((s_wBack_ok N x0 x1).trans h) (fun rs' m h => by
    unfold r_wBack at h
    split at h
    · cases h; exact ⟨rfl, rfl⟩
    · cases h)
end Go.Proofs.YtahemenhcoedgaaDoor.En

/- The printed functions, together. -/

/- Words for the plain laws: branches, numbers, bits, places in a list. No program in sight. -/
namespace Go.Proofs.YtahemenhcoedgaaDoor.En
open Go
set_option linter.unusedVariables false
section
variable {R α β γ δ : Type}
theorem br_t (x y : Option R) : br true x y = x := id rfl
theorem br_f (x y : Option R) : br false x y = y := id rfl
theorem br_dec (p : Prop) [Decidable p] (x y : Option R) : br (decide p) x y = if p then x else y := by
  by_cases h : p <;> simp [br, h]
theorem br_not (c : Bool) (x y : Option R) : br (!c) x y = br c y x := by cases c <;> rfl
theorem br_and (a b : Bool) (x y : Option R) : br (a && b) x y = br a (br b x y) y := by cases a <;> rfl
theorem br_or (a b : Bool) (x y : Option R) : br (a || b) x y = br a x (br b x y) := by cases a <;> rfl
theorem bnd1_mk (a : α) (K : α → Option R) : bnd1 (some a) K = K a := id rfl
theorem bnd2_mk (a : α) (b : β) (K : α → β → Option R) : bnd2 (some (a, b)) K = K a b := id rfl
theorem bnd3_mk (a : α) (b : β) (c : γ) (K : α → β → γ → Option R) : bnd3 (some (a, b, c)) K = K a b c := id rfl
theorem bnd4_mk (a : α) (b : β) (c : γ) (d : δ) (K : α → β → γ → δ → Option R) : bnd4 (some (a, b, c, d)) K = K a b c d := id rfl
theorem bnd5_mk {ε : Type} (a : α) (b : β) (c : γ) (d : δ) (e : ε) (K : α → β → γ → δ → ε → Option R) : bnd5 (some (a, b, c, d, e)) K = K a b c d e := id rfl
theorem at_of {xs : List α} {i : Nat} {x : α} (h : xs[i]? = some x) (K : α → Option R) : at? xs i K = K x := by simp [at?, h]
theorem at_zero (x : α) (r : List α) (K : α → Option R) : at? (x :: r) 0 K = K x := id rfl
theorem at_succ (x : α) (r : List α) (i : Nat) (K : α → Option R) : at? (x :: r) (i + 1) K = at? r i K := by simp [at?]
theorem at_mid (pre : List α) (x : α) (suf : List α) (K : α → Option R) : at? (pre ++ x :: suf) pre.length K = K x := at_of (by simp) K
theorem unInt_mk (k : IntKind) (n : Int) (K : Int → Option R) : V.unInt k (.int k n) K = K n := by simp [V.unInt]
theorem unBool_mk (b : Bool) (K : Bool → Option R) : V.unBool (.bool b) K = K b := id rfl
theorem unStr_mk (s : List UInt8) (K : List UInt8 → Option R) : V.unStr (.str s) K = K s := id rfl
theorem unBytes_mk (s : List UInt8) (K : List UInt8 → Option R) : V.unBytes (.bytes s) K = K s := id rfl
theorem unSl_mk (e : TypeId) (s : List V) (K : List V → Option R) : V.unSl e (.sl e s) K = K s := by simp [V.unSl]
theorem unAgg_mk (s : List V) (K : List V → Option R) : V.unAgg (.agg s) K = K s := id rfl
theorem unCons_mk (x : V) (r : List V) (K : V → List V → Option R) : unCons (x :: r) K = K x r := id rfl
theorem unNil_mk (K : Option R) : unNil [] K = K := id rfl
end
/-! Numbers -/
theorem w64 {n : Int} (h1 : -9223372036854775808 ≤ n) (h2 : n ≤ 9223372036854775807) : IntKind.i64.wrap n = n := by
  rw [IntKind.wrap_i64]; omega
theorem w64_u8 (u : UInt8) : IntKind.i64.wrap (u.toNat : Int) = u.toNat := by
  have := u.toNat_lt; exact w64 (by omega) (by omega)
theorem u8_lt (u : UInt8) : (u.toNat : Int) < 256 := by have := u.toNat_lt; omega
theorem wu8 (n : Int) : IntKind.u8.wrap n = n % 256 := IntKind.wrap_u8 n
theorem ofInt_toNat64 (a : Int) : (BitVec.ofInt 64 a).toNat = (a % 18446744073709551616).toNat := by
  rw [BitVec.toNat_ofInt]; rfl
theorem fdiv_pos (a b : Int) (h : 0 < b) : a.fdiv b = a / b := by rw [Int.fdiv_eq_ediv_of_nonneg _ (by omega)]
theorem shr8 (a : Int) : shrI .i64 a 8 = a / 256 := by
  show a.fdiv (2 ^ (min (8 : Int).toNat 64)) = _
  exact fdiv_pos a 256 (by omega)
/-- a & (2^k - 1) -/
theorem and_mask (a : Int) (k : Nat) (hk : k ≤ 62) : bitsI .and .i64 a ((2 ^ k - 1 : Nat) : Int) = a % (2 ^ k : Nat) := by
  have hp : (2 ^ k : Nat) ≤ 2 ^ 62 := Nat.pow_le_pow_right (by omega) hk
  have h0 : 0 < 2 ^ k := Nat.pos_of_ne_zero (by simp)
  have e1 : (BitVec.ofInt 64 ((2 ^ k - 1 : Nat) : Int)).toNat = 2 ^ k - 1 := by
    rw [ofInt_toNat64]; omega
  have e2 : (BitVec.ofInt 64 a &&& BitVec.ofInt 64 ((2 ^ k - 1 : Nat) : Int)).toNat = (a % 18446744073709551616).toNat % 2 ^ k := by
    rw [BitVec.toNat_and, e1, ofInt_toNat64, Nat.and_two_pow_sub_one_eq_mod]
  have hd : (2 ^ k : Nat) ∣ 18446744073709551616 := by
    have : (18446744073709551616 : Nat) = 2 ^ 64 := by decide
    rw [this]; exact Nat.pow_dvd_pow 2 (by omega)
  have e3 : ((((a % 18446744073709551616).toNat % 2 ^ k : Nat)) : Int) = a % (2 ^ k : Nat) := by
    rw [Int.natCast_emod]
    rw [Int.toNat_of_nonneg (Int.emod_nonneg _ (by omega))]
    have hd' : ((2 ^ k : Nat) : Int) ∣ ((18446744073709551616 : Nat) : Int) := Int.natCast_dvd_natCast.2 hd
    exact Int.emod_emod_of_dvd a hd'
  show IntKind.i64.wrap ((BitVec.ofInt 64 a &&& BitVec.ofInt 64 _).toNat : Int) = _
  rw [e2, e3]
  have := Int.emod_nonneg a (b := ((2 ^ k : Nat) : Int)) (by omega)
  have := Int.emod_lt_of_pos a (b := ((2 ^ k : Nat) : Int)) (by omega)
  exact w64 (by omega) (by omega)
theorem and31 (a : Int) : bitsI .and .i64 a 31 = a % 32 := and_mask a 5 (by omega)
theorem and255 (a : Int) : bitsI .and .i64 a 255 = a % 256 := and_mask a 8 (by omega)
theorem and_two_pow' (m k : Nat) : m &&& 2 ^ k = 2 ^ k * (m / 2 ^ k % 2) := by
  apply Nat.eq_of_testBit_eq
  intro i
  rw [Nat.testBit_and, Nat.testBit_two_pow, Nat.mul_comm, ← Nat.shiftLeft_eq, Nat.testBit_shiftLeft]
  have h2 : m / 2 ^ k % 2 = (m.testBit k).toNat := by
    rw [Nat.testBit_eq_decide_div_mod_eq]
    have : m / 2 ^ k % 2 < 2 := Nat.mod_lt _ (by omega)
    rcases (by omega : m / 2 ^ k % 2 = 0 ∨ m / 2 ^ k % 2 = 1) with h | h <;> simp [h]
  rw [h2]
  by_cases hk : k = i
  · subst hk; cases m.testBit k <;> simp
  · simp only [hk, decide_false, Bool.and_false]
    by_cases hl : k ≤ i
    · obtain ⟨j, rfl⟩ : ∃ j, i = k + (j + 1) := ⟨i - k - 1, by omega⟩
      rw [show k + (j + 1) - k = j + 1 by omega]
      cases m.testBit k <;> simp [Nat.testBit_succ]
    · simp [hl]
/-- a & 2^k -/
theorem and_bit (a : Int) (k : Nat) (hk : k ≤ 62) : bitsI .and .i64 a ((2 ^ k : Nat) : Int) = (2 ^ k : Nat) * (a / (2 ^ k : Nat) % 2) := by
  have hp : (2 ^ k : Nat) ≤ 2 ^ 62 := Nat.pow_le_pow_right (by omega) hk
  have h0 : 0 < 2 ^ k := Nat.pos_of_ne_zero (by simp)
  have e1 : (BitVec.ofInt 64 ((2 ^ k : Nat) : Int)).toNat = 2 ^ k := by rw [ofInt_toNat64]; omega
  generalize hm : (a % 18446744073709551616).toNat = m
  have e2 : (BitVec.ofInt 64 a &&& BitVec.ofInt 64 ((2 ^ k : Nat) : Int)).toNat = 2 ^ k * (m / 2 ^ k % 2) := by
    rw [BitVec.toNat_and, e1, ofInt_toNat64, hm, and_two_pow']
  have hd : (2 ^ (k + 1) : Nat) ∣ 18446744073709551616 := by
    have : (18446744073709551616 : Nat) = 2 ^ 64 := by decide
    rw [this]; exact Nat.pow_dvd_pow 2 (by omega)
  have e3 : ((m / 2 ^ k % 2 : Nat) : Int) = a / (2 ^ k : Nat) % 2 := by
    have hmi : (m : Int) = a % 18446744073709551616 := by rw [← hm, Int.toNat_of_nonneg (Int.emod_nonneg _ (by omega))]
    obtain ⟨q, hq⟩ := hd
    have hq' : (18446744073709551616 : Int) = ((2 ^ k : Nat) : Int) * (2 * (q : Int)) := by
      have : (18446744073709551616 : Nat) = 2 ^ k * (2 * q) := by rw [hq, Nat.pow_succ, Nat.mul_assoc]
      rw [show (18446744073709551616 : Int) = ((18446744073709551616 : Nat) : Int) by rfl, this]; push_cast; rfl
    rw [Int.natCast_emod, Int.natCast_ediv, hmi]
    have ha := Int.emod_add_mul_ediv a 18446744073709551616
    generalize a / 18446744073709551616 = z at ha
    have e : a = a % 18446744073709551616 + ((2 ^ k : Nat) : Int) * (2 * (q : Int) * z) := by
      rw [← Int.mul_assoc, ← hq']; omega
    conv => rhs; rw [e]
    rw [Int.add_mul_ediv_left _ _ (by omega)]
    rw [show (2 : Int) * (q : Int) * z = (q * z) * 2 by rw [Int.mul_assoc, Int.mul_comm]]
    exact (Int.add_mul_emod_self_right _ _ _).symm
  show IntKind.i64.wrap ((BitVec.ofInt 64 a &&& BitVec.ofInt 64 _).toNat : Int) = _
  rw [e2]
  have h2 : ((2 ^ k * (m / 2 ^ k % 2) : Nat) : Int) = (2 ^ k : Nat) * (a / (2 ^ k : Nat) % 2) := by rw [Int.natCast_mul, e3]
  rw [h2]
  have : a / ((2 ^ k : Nat) : Int) % 2 = 0 ∨ a / ((2 ^ k : Nat) : Int) % 2 = 1 := by omega
  rcases this with h | h <;> rw [h] <;> exact w64 (by omega) (by omega)
theorem and32 (a : Int) : bitsI .and .i64 a 32 = 32 * (a / 32 % 2) := and_bit a 5 (by omega)
/-- a << 8 | b -/
theorem shl8_or (a b : Int) (h1 : 0 ≤ a) (h2 : a < 36028797018963968) (h3 : 0 ≤ b) (h4 : b < 256) : bitsI .or .i64 (shlI .i64 a 8) b = 256 * a + b := by
  have e0 : shlI .i64 a 8 = 256 * a := by
    show IntKind.i64.wrap (a * 2 ^ (min (8 : Int).toNat 64)) = _
    rw [show (2 : Int) ^ (min (8 : Int).toNat 64) = 256 from rfl, w64 (by omega) (by omega)]; omega
  obtain ⟨x, rfl⟩ := Int.eq_ofNat_of_zero_le h1
  obtain ⟨y, rfl⟩ := Int.eq_ofNat_of_zero_le h3
  have e1 : (BitVec.ofInt 64 (256 * (x : Int))).toNat = x <<< 8 := by
    rw [ofInt_toNat64, Nat.shiftLeft_eq]; omega
  have e2 : (BitVec.ofInt 64 (y : Int)).toNat = y := by rw [ofInt_toNat64]; omega
  rw [e0]
  show IntKind.i64.wrap ((BitVec.ofInt 64 (256 * (x : Int)) ||| BitVec.ofInt 64 (y : Int)).toNat : Int) = _
  rw [BitVec.toNat_or, e1, e2, ← Nat.shiftLeft_add_eq_or_of_lt (by omega), Nat.shiftLeft_eq]
  rw [w64 (by omega) (by omega)]; omega
theorem or0 (b : Int) (h3 : 0 ≤ b) (h4 : b < 256) : bitsI .or .i64 0 b = b := by
  have := shl8_or 0 b (by omega) (by omega) h3 h4
  have e : shlI .i64 0 8 = 0 := by decide
  rw [e] at this; omega
end Go.Proofs.YtahemenhcoedgaaDoor.En

/- The engine, part 2r: what an argument that came in reads as. No program in sight. -/
namespace Go.Proofs.YtahemenhcoedgaaDoor.En
open Go Go.RowKit
set_option linter.unusedVariables false
/-- A world of arguments: nothing is written. -/
def immG (T : TypeId → Option Ty) : G := { Γ := fun _ => .imm, J := fun _ _ => 0, sz := sizes T }
theorem stable_imm (T : TypeId → Option Ty) (b o : Nat) : Stable (immG T) b o := trivial
/-- An element, given its cells. -/
def mkEl (row : Bool) (cs : List V) : V := match row with | true => .agg cs | false => cs.headD .nilI
/-- Cells that have the shape of a type. -/
def FitsFs (F : TypeId → List V → Prop) : List Field → List V → Prop
  | [], xs => xs = []
  | f :: fs, xs => ∃ a r, xs = a ++ r ∧ F f.type a ∧ FitsFs F fs r
def Fits (T : TypeId → Option Ty) : Nat → TypeId → List V → Prop
  | 0, _, _ => False
  | n + 1, t, xs => match T t with
    | none => False
    | some ty => match ty.desc with
      | .bool => ∃ b, xs = [.bool b]
      | .int k => ∃ i, xs = [.int k i] ∧ k.min ≤ i ∧ i ≤ k.max
      | .string => ∃ s, xs = [.str s] ∧ s.length ≤ maxLen
      | .slice e => match ty.cks with
        | [.bytes _] => ∃ s, xs = [.bytes s] ∧ s.length ≤ maxLen
        | [.slc e'] => e' = e ∧ ∃ ys, xs = [.sl e ys] ∧ ys.length ≤ maxLen ∧ ∀ y ∈ ys, ∃ te cs, T e = some te ∧ y = mkEl te.row cs ∧ Fits T n e cs
        | _ => False
      | .struct fs => FitsFs (Fits T n) fs.toList xs
      | _ => False
/-- A type that is read. -/
def readable (T : TypeId → Option Ty) (t : TypeId) : Bool :=
  match T t with
  | none => false
  | some ty => match ty.desc with
    | .bool => true
    | .int _ => true
    | .string => true
    | .slice e => (match T e with
      | none => false
      | some te => (match ty.cks with
        | [.bytes _] => (match te.desc with | .int .u8 => Nat.beq te.size 1 | _ => false)
        | [.slc e'] => Nat.beq e' e && Nat.ble 1 te.size && (match te.row with | true => true | false => Nat.beq te.size 1)
        | _ => false))
    | .struct fs => contigT T ty.size 0 fs.toList && fs.toList.all (fun f => match T f.type with | some _ => true | none => false)
    | _ => false
/-- The types that a type leads to. -/
def closedT (T : TypeId → Option Ty) (l : List TypeId) : Bool :=
  l.all fun t => readable T t && (match T t with
    | none => false
    | some ty => match ty.desc with
      | .slice e => l.any (Nat.beq e)
      | .struct fs => fs.toList.all fun f => l.any (Nat.beq f.type)
      | _ => true)
section
variable {H : Type} {enc : TypeId × Value → H} {P : Program} {T : TypeId → Option Ty} {w : World} {base : Nat} {spare : Nat → Bool} {held : Bool}
structure RepC (T : TypeId → Option Ty) (w : World) (xs : List V) (cs : List Value) : Prop where
  len : xs.length = cs.length
  one : ∀ x ∈ xs, x.one = true
  rep : ∀ (k : Nat) y, xs[k]? = some y → RepV (immG T) w y (cs.getD k undef)
theorem RepC.single {x : V} {v : Value} (h1 : x.one = true) (h : RepV (immG T) w x v) : RepC T w [x] [v] :=
  ⟨rfl, fun y hy => by simp at hy; subst hy; exact h1, fun k y hk => by
    rcases k with _ | k
    · simp at hk; subst hk; simpa using h
    · simp at hk⟩
theorem RepC.append {xs ys : List V} {cs ds : List Value} (h : RepC T w xs cs) (k : RepC T w ys ds) : RepC T w (xs ++ ys) (cs ++ ds) := by
  refine ⟨by simp [h.len, k.len], fun x hx => ?_, fun i y hy => ?_⟩
  · rcases List.mem_append.1 hx with hx | hx
    · exact h.one x hx
    · exact k.one x hx
  · rcases Nat.lt_or_ge i xs.length with hl | hl
    · rw [List.getElem?_append_left hl] at hy
      have := h.rep i y hy
      rw [List.getD_eq_getElem?_getD, List.getElem?_append_left (by rw [← h.len]; exact hl), ← List.getD_eq_getElem?_getD]
      exact this
    · rw [List.getElem?_append_right hl] at hy
      have := k.rep _ y hy
      rw [List.getD_eq_getElem?_getD, List.getElem?_append_right (by rw [← h.len]; exact hl), ← h.len, ← List.getD_eq_getElem?_getD]
      exact this
theorem cellsOf_eq (hT : TypesOK P T) {t : TypeId} {ty : Ty} (h : T t = some ty) : P.cellsOf t = ty.size := by
  obtain ⟨i, h1, _, h2, _⟩ := (hT t ty h).info
  simp [Program.cellsOf, h1, h2]
theorem sizes_eq {t : TypeId} {ty : Ty} (h : T t = some ty) : sizes T t = ty.size := by unfold sizes; rw [h]
theorem add_none (b off i : Nat) : (⟨b, off, none⟩ : Addr).add i = ⟨b, off + i, none⟩ := by
  unfold Addr.add
  by_cases h0 : i = 0
  · subst h0; rfl
  · rw [if_neg h0]
theorem spot_row {a : Addr} {n k : Nat} {cs : List Value} (h : w.cells? base (a.add (0 * n)) k = some cs) (hk : 0 < k) : a.spot = none := by
  obtain ⟨_, hl, h5⟩ := World.cells?_some h
  have h6 := h5 0 hk
  rw [List.getElem?_eq_getElem (by omega)] at h6
  have := World.cell?_spot h6
  simpa [Addr.add] using this
theorem mkEl_cells {row : Bool} {cs : List V} (ho : ∀ x ∈ cs, x.one = true) (h : row = false → cs.length = 1) : (mkEl row cs).cells = cs := by
  cases row with
  | true => rfl
  | false =>
    have := h rfl
    match cs, this with
    | [x], _ =>
      have := ho x (by simp)
      show V.cells x = [x]
      cases x <;> first | rfl | cases this
theorem okEl_mk {row : Bool} {cs : List V} {n : Nat} (hl : cs.length = n) (ho : ∀ x ∈ cs, x.one = true) (h : row = false → cs.length = 1) : okEl n (mkEl row cs) = true := by
  unfold okEl
  rw [mkEl_cells ho h]
  simp only [Bool.and_eq_true, beq_iff_eq, List.all_eq_true]
  exact ⟨hl, ho⟩
theorem flatT_get {α : Type} {n : Nat} : ∀ (l : List (List α)) (i j : Nat) (c : List α), (∀ c ∈ l, c.length = n) → l[i]? = some c → j < n → l.flatten[i * n + j]? = c[j]?
  | [], i, j, c, _, h, _ => by simp at h
  | d :: l, 0, j, c, hl, h, hj => by
    simp at h; subst h
    have := hl d (by simp)
    rw [List.flatten_cons, Nat.zero_mul, Nat.zero_add, List.getElem?_append_left (by omega)]
  | d :: l, i + 1, j, c, hl, h, hj => by
    have hd := hl d (by simp)
    rw [List.flatten_cons, Nat.succ_mul, List.getElem?_append_right (by omega)]
    rw [show i * n + n + j - d.length = i * n + j by omega]
    exact flatT_get l i j c (fun c hc => hl c (by simp [hc])) (by simpa using h) hj
theorem flatT_len {α : Type} {n : Nat} : ∀ (l : List (List α)), (∀ c ∈ l, c.length = n) → l.flatten.length = l.length * n
  | [], _ => by simp
  | d :: l, h => by
    rw [List.flatten_cons, List.length_append, h d (by simp), flatT_len l fun c hc => h c (by simp [hc]), List.length_cons, Nat.succ_mul]; omega
theorem choose_list {α : Type} {p : Nat → α → Prop} : ∀ (n : Nat), (∀ i, i < n → ∃ a, p i a) → ∃ l : List α, l.length = n ∧ ∀ (i : Nat) a, l[i]? = some a → p i a
  | 0, _ => ⟨[], rfl, fun i a h => by simp at h⟩
  | n + 1, h => by
    obtain ⟨l, h1, h2⟩ := choose_list n fun i hi => h i (by omega)
    obtain ⟨a, ha⟩ := h n (by omega)
    refine ⟨l ++ [a], by simp [h1], fun i b hb => ?_⟩
    rcases Nat.lt_or_ge i l.length with hl | hl
    · rw [List.getElem?_append_left hl] at hb; exact h2 i b hb
    · rw [List.getElem?_append_right hl] at hb
      have : i = n := by
        have := (List.getElem?_eq_some_iff.1 hb).1
        simp at this; omega
      subst this
      rw [h1] at hb
      simp at hb
      subst hb; exact ha
theorem trod_rep (hT : TypesOK P T) {l : List TypeId} (hl : closedT T l = true) : ∀ (fuel : Nat) (t : TypeId) (cs : List Value) (x : DataW H × List MemPlace), t ∈ l → DataW.trod enc P w base spare held fuel t cs = some x →
    ∃ xs, RepC T w xs cs ∧ Fits T fuel t xs ∧ ∀ ty, T t = some ty → cs.length = ty.size
  | 0, t, cs, x, _, h => by simp [DataW.trod] at h
  | n + 1, t, cs, x, hm, h => by
    have hcl := List.all_eq_true.1 hl t hm
    simp only [Bool.and_eq_true] at hcl
    obtain ⟨hre, hlead⟩ := hcl
    unfold Fits
    unfold readable at hre
    cases hTt : T t with
    | none => rw [hTt] at hre; simp at hre
    | some ty =>
    rw [hTt] at hre hlead
    simp only at hre hlead ⊢
    have hd := (hT t ty hTt).desc
    have h1c : ty.row = false → ty.size = 1 := (hT t ty hTt).one
    cases hdesc : ty.desc <;> rw [hdesc] at hre hlead hd <;> simp only [Bool.false_eq_true] at hre hlead ⊢
    · obtain ⟨b, rfl, _⟩ := DataW.trod_bool hd h
      exact ⟨[.bool b], .single rfl (.bool b), ⟨b, rfl⟩, fun ty' e => by cases e; rw [h1c (by simp [Ty.row, hdesc])]; rfl⟩
    · rename_i k
      obtain ⟨i, rfl, _, hwf⟩ := DataW.trod_int hd h
      have hb : k.min ≤ i ∧ i ≤ k.max := by simpa [Lit.wf] using hwf
      exact ⟨[.int k i], .single rfl (.int k i hb), ⟨i, rfl, hb⟩, fun ty' e => by cases e; rw [h1c (by simp [Ty.row, hdesc])]; rfl⟩
    · obtain ⟨s, rfl, _, hs⟩ := DataW.trod_string hd h
      have e : s = ⟨s.data.toList.toArray⟩ := by cases s; simp
      have hsl : s.data.toList.length = s.size := by cases s; rfl
      refine ⟨[.str s.data.toList], .single rfl ?_, ⟨_, rfl, by rw [hsl]; exact hs⟩, fun ty' e => by cases e; rw [h1c (by simp [Ty.row, hdesc])]; rfl⟩
      have := RepV.str (g := immG T) (w := w) s.data.toList (by rw [hsl]; unfold maxLen at hs; omega)
      rwa [← e] at this
    · rename_i e
      cases hTe : T e with
      | none => rw [hTe] at hre; simp at hre
      | some te =>
      rw [hTe] at hre
      simp only at hre
      have hsz := cellsOf_eq hT hTe
      have hmem : e ∈ l := by
        obtain ⟨z, hz, hb⟩ := List.any_eq_true.1 hlead
        have := Nat.eq_of_beq_eq_true hb
        subst this; exact hz
      have hsize : ∀ ty', some ty = some ty' → ∀ v : Value, [v].length = ty'.size := fun ty' e v => by cases e; rw [h1c (by simp [Ty.row, hdesc])]; rfl
      split at hre
      · rename_i e0 hcks
        split at hre
        · rename_i hte
          have hte1 := Nat.eq_of_beq_eq_true hre
          rw [hte1] at hsz
          have hde := (hT e te hTe).desc
          rw [hte] at hde
          rcases DataW.trod_slice hd h with ⟨rfl, _⟩ | ⟨a, len, cap, elems, rest, m, e1, rfl, _, hb, hlc, hcm, hel, hget, _, _⟩
          · exact ⟨[.bytes []], .single rfl (.bytes [] none 0 0 rfl (Nat.le_refl _) (by simp) (fun k x hx => by simp at hx)), ⟨[], rfl, by simp⟩, fun ty' e => hsize ty' e _⟩
          · have key : ∀ i, i < len → ∃ b : UInt8, ∃ bb off, a = ⟨bb, off, none⟩ ∧ w.cell? ⟨bb, off + i, none⟩ = some (.int .u8 (b.toNat : Int)) := by
              intro i hi
              have h2 := hget i hi
              rw [List.getElem?_eq_getElem (by rw [hel]; exact hi), Option.bind_eq_some_iff] at h2
              obtain ⟨cs, h3, h4⟩ := h2
              obtain ⟨z, rfl, _, hwf⟩ := DataW.trod_int hde h4
              rw [hsz, Nat.mul_one] at h3
              obtain ⟨_, _, h5⟩ := World.cells?_some h3
              have h6 := h5 0 (by omega)
              simp at h6
              have hzr : 0 ≤ z ∧ z ≤ 255 := by simpa [Lit.wf, IntKind.min, IntKind.max, IntKind.signed, IntKind.bits] using hwf
              have hspn : a.spot = none := by
                have h2 := hget 0 (by omega)
                rw [List.getElem?_eq_getElem (by omega), Option.bind_eq_some_iff] at h2
                obtain ⟨cs, h3, _⟩ := h2
                exact spot_row h3 (by omega)
              obtain ⟨bb, off, sp⟩ := a
              simp only at hspn
              subst hspn
              refine ⟨UInt8.ofNat z.toNat, bb, off, rfl, ?_⟩
              rw [add_none] at h6
              have hz2 : (off + i + 0) = off + i := rfl
              rw [show ((UInt8.ofNat z.toNat).toNat : Int) = z by rw [UInt8.toNat_ofNat', Nat.mod_eq_of_lt (by omega)]; omega]
              simpa [Addr.add] using h6
            obtain ⟨bs, b1, b2⟩ := choose_list len key
            refine ⟨[.bytes bs], .single rfl (.bytes bs (some a) len cap b1 hlc hcm fun k x hx => ?_), ⟨bs, rfl, by omega⟩, fun ty' e => hsize ty' e _⟩
            obtain ⟨bb, off, c1, c2⟩ := b2 k x hx
            exact ⟨bb, off, by rw [c1], stable_imm T _ _, c2⟩
        · cases hre
      · rename_i e0 hcks
        simp only [Bool.and_eq_true] at hre
        obtain ⟨⟨he0, hte1⟩, hrow⟩ := hre
        have he0 := Nat.eq_of_beq_eq_true he0
        have hte1 := Nat.le_of_ble_eq_true hte1
        have hrow1 : te.row = false → te.size = 1 := (hT e te hTe).one
        have hszs : (immG T).sz e = te.size := sizes_eq hTe
        rcases DataW.trod_slice hd h with ⟨rfl, _⟩ | ⟨a, len, cap, elems, rest, m, e1, rfl, _, hb, hlc, hcm, hel, hget, _, _⟩
        · exact ⟨[.sl e []], .single rfl (.sl e [] none 0 0 (fun _ => undef) rfl (Nat.le_refl _) (by simp) (by simp) (fun k y hy => by simp at hy) (fun k y hy => by simp at hy)), ⟨he0, [], rfl, by simp, by simp⟩, fun ty' e => hsize ty' e _⟩
        · obtain rfl : n = m := by omega
          have key : ∀ i, i < len → ∃ p : List V × List Value, RepC T w p.1 p.2 ∧ Fits T n e p.1 ∧ p.2.length = te.size ∧ ∃ bb off, a = ⟨bb, off, none⟩ ∧ ∀ j, j < te.size → w.cell? ⟨bb, off + (i * te.size + j), none⟩ = some (p.2.getD j undef) := by
            intro i hi
            have h2 := hget i hi
            rw [List.getElem?_eq_getElem (by rw [hel]; exact hi), Option.bind_eq_some_iff] at h2
            obtain ⟨cs, h3, h4⟩ := h2
            obtain ⟨xs, c1, c2, c3⟩ := trod_rep hT hl n e cs _ hmem h4
            have c3 := c3 te hTe
            rw [hsz] at h3
            obtain ⟨_, _, h5⟩ := World.cells?_some h3
            have hspn : a.spot = none := by
              have h2 := hget 0 (by omega)
              rw [List.getElem?_eq_getElem (by omega), Option.bind_eq_some_iff] at h2
              obtain ⟨cs, h3, _⟩ := h2
              exact spot_row h3 (by omega)
            obtain ⟨bb, off, sp⟩ := a
            simp only at hspn
            subst hspn
            refine ⟨(xs, cs), c1, c2, c3, bb, off, rfl, fun j hj => ?_⟩
            have h7 := h5 j hj
            rw [add_none, add_none, Nat.add_assoc] at h7
            rw [h7, List.getD_eq_getElem?_getD]
            show cs[j]? = some (cs[j]?.getD undef)
            rw [List.getElem?_eq_getElem (by omega)]; rfl
          obtain ⟨ps, b1, b2⟩ := choose_list len key
          have hxl : ∀ p ∈ ps, p.1.length = te.size ∧ ∀ x ∈ p.1, x.one = true := by
            intro p hp
            obtain ⟨i, hi⟩ := List.getElem?_of_mem hp
            obtain ⟨c1, _, c3, _⟩ := b2 i p hi
            exact ⟨by rw [c1.len, c3], c1.one⟩
          have hcells : ∀ p ∈ ps, (mkEl te.row p.1).cells = p.1 := fun p hp => mkEl_cells (hxl p hp).2 fun hr => by rw [(hxl p hp).1, hrow1 hr]
          have hflat : (ps.map fun p => mkEl te.row p.1).flatMap V.cells = (ps.map (·.1)).flatten := by
            rw [List.flatMap_def, List.map_map]
            congr 1
            exact List.map_congr_left fun p hp => hcells p hp
          have hall : ∀ c ∈ ps.map (·.1), c.length = te.size := fun c hc => by
            obtain ⟨p, hp, rfl⟩ := List.mem_map.1 hc
            exact (hxl p hp).1
          have hlook : ∀ (k : Nat) (y : V), ((ps.map fun p => mkEl te.row p.1).flatMap V.cells)[k]? = some y → ∃ i j p, k = i * te.size + j ∧ j < te.size ∧ ps[i]? = some p ∧ p.1[j]? = some y := by
            intro k y hk
            rw [hflat] at hk
            have hk1 := (List.getElem?_eq_some_iff.1 hk).1
            rw [flatT_len _ hall, List.length_map, b1] at hk1
            have hpos : 0 < te.size := by omega
            have hi : k / te.size < len := (Nat.div_lt_iff_lt_mul hpos).2 hk1
            have hj : k % te.size < te.size := Nat.mod_lt _ hpos
            have hkk : k = k / te.size * te.size + k % te.size := by rw [Nat.mul_comm]; exact (Nat.div_add_mod k te.size).symm
            have hp : ps[k / te.size]? = some (ps[k / te.size]'(by omega)) := List.getElem?_eq_getElem (by omega)
            refine ⟨k / te.size, k % te.size, _, hkk, hj, hp, ?_⟩
            rw [hkk] at hk
            rw [flatT_get _ _ _ _ hall (by rw [List.getElem?_map, hp]; rfl) hj] at hk
            exact hk
          refine ⟨[.sl e (ps.map fun p => mkEl te.row p.1)], .single rfl (.sl e _ (some a) len cap (fun k => ((ps.map (·.2)).flatten).getD k undef) (by simp [b1]) hlc hcm (fun x hx => ?_) (fun k y hk => ?_) (fun k y hk => ?_)), ⟨he0, _, rfl, by simp [b1]; omega, fun y hy => ?_⟩, fun ty' e => hsize ty' e _⟩
          · obtain ⟨p, hp, rfl⟩ := List.mem_map.1 hx
            rw [hszs]
            exact okEl_mk (hxl p hp).1 (hxl p hp).2 fun hr => by rw [(hxl p hp).1, hrow1 hr]
          · obtain ⟨i, j, p, rfl, hj, hp, hy⟩ := hlook k y hk
            obtain ⟨_, _, c3, bb, off, c4, c5⟩ := b2 i p hp
            refine ⟨bb, off, by rw [c4], stable_imm T _ _, ?_⟩
            rw [c5 j hj]
            have : (ps.map (·.2)).flatten[i * te.size + j]? = p.2[j]? := flatT_get _ _ _ _ (fun c hc => by
              obtain ⟨q, hq, rfl⟩ := List.mem_map.1 hc
              obtain ⟨i', hi'⟩ := List.getElem?_of_mem hq
              exact (b2 i' q hi').2.2.1) (by rw [List.getElem?_map, hp]; rfl) hj
            rw [List.getD_eq_getElem?_getD, List.getD_eq_getElem?_getD, this]
          · obtain ⟨i, j, p, rfl, hj, hp, hy⟩ := hlook k y hk
            obtain ⟨c1, _, c3, _⟩ := b2 i p hp
            have : (ps.map (·.2)).flatten[i * te.size + j]? = p.2[j]? := flatT_get _ _ _ _ (fun c hc => by
              obtain ⟨q, hq, rfl⟩ := List.mem_map.1 hc
              obtain ⟨i', hi'⟩ := List.getElem?_of_mem hq
              exact (b2 i' q hi').2.2.1) (by rw [List.getElem?_map, hp]; rfl) hj
            have := c1.rep j y hy
            rw [List.getD_eq_getElem?_getD] at this ⊢
            rwa [‹(ps.map (·.2)).flatten[i * te.size + j]? = p.2[j]?›]
          · obtain ⟨p, hp, rfl⟩ := List.mem_map.1 hy
            obtain ⟨i, hi⟩ := List.getElem?_of_mem hp
            exact ⟨te, p.1, rfl, rfl, (b2 i p hi).2.1⟩
      · cases hre
    · rename_i fs
      simp only [Bool.and_eq_true] at hre
      obtain ⟨hco, hfa⟩ := hre
      obtain ⟨ys, m, e1, _, hlen, _, hg⟩ := DataW.trod_struct hd h
      obtain rfl : n = m := by omega
      rw [cellsOf_eq hT hTt] at hlen
      have main : ∀ (l' : List Field) (i off : Nat), fs.toList.drop i = l' → contigT T ty.size off l' = true → off ≤ ty.size → ∃ xs, RepC T w xs (cs.drop off) ∧ FitsFs (Fits T n) l' xs := by
        intro l'
        induction l' with
        | nil =>
          intro i off hdr hc ho
          have := Nat.eq_of_beq_eq_true hc
          refine ⟨[], ⟨by simp; omega, by simp, by simp⟩, rfl⟩
        | cons f l' ih =>
          intro i off hdr hc ho
          simp only [contigT, Bool.and_eq_true] at hc
          obtain ⟨hc1, hc2⟩ := hc
          have hc1 := Nat.eq_of_beq_eq_true hc1
          have hfi : fs.toList[i]? = some f := by
            have : (fs.toList.drop i)[0]? = some f := by rw [hdr]; rfl
            simpa using this
          have hfm : f ∈ fs.toList := List.mem_of_getElem? hfi
          have h1 := List.all_eq_true.1 hfa f hfm
          have hfl : f.type ∈ l := by
            have := List.all_eq_true.1 hlead f hfm
            obtain ⟨z, hz, hb⟩ := List.any_eq_true.1 this
            have := Nat.eq_of_beq_eq_true hb
            rw [this]; exact hz
          cases hTf : T f.type with
          | none => rw [hTf] at h1; simp at h1
          | some tf =>
          have h2 := hg i f (by simpa using hfi)
          rw [cellsOf_eq hT hTf, hc1] at h2
          have hle : off + tf.size ≤ ty.size := by
            have : ∀ (l' : List Field) (off : Nat), contigT T ty.size off l' = true → off ≤ ty.size := by
              intro l'
              induction l' with
              | nil => intro off hc; have := Nat.eq_of_beq_eq_true hc; omega
              | cons f l' ih => intro off hc; simp only [contigT, Bool.and_eq_true] at hc; have := ih _ hc.2; omega
            have := this l' _ hc2
            rw [sizes_eq hTf] at this
            exact this
          have hys : i < ys.length := by
            cases hyi : ys[i]? with
            | none =>
              have hfi2 : i < fs.size := by
                have := (List.getElem?_eq_some_iff.1 hfi).1
                simpa using this
              have : ys.length = fs.size := by assumption
              rw [this]; exact hfi2
            | some y => exact (List.getElem?_eq_some_iff.1 hyi).1
          rw [List.getElem?_eq_getElem hys] at h2
          obtain ⟨xs, c1, c2, _⟩ := trod_rep hT hl n f.type _ _ hfl h2
          obtain ⟨rs, d1, d2⟩ := ih (i + 1) (off + sizes T f.type) (by rw [List.drop_add_one_eq_tail_drop, hdr]; rfl) hc2 (by rw [sizes_eq hTf]; exact hle)
          refine ⟨xs ++ rs, ?_, xs, rs, rfl, c2, d2⟩
          have := c1.append d1
          rw [sizes_eq hTf, ← List.drop_drop, List.take_append_drop] at this
          exact this
      obtain ⟨xs, c1, c2⟩ := main fs.toList 0 0 rfl hco (Nat.zero_le _)
      exact ⟨xs, by simpa using c1, c2, fun ty' e => by cases e; exact hlen⟩
/-- An argument. -/
theorem arg_rep (hT : TypesOK P T) {l : List TypeId} (hl : closedT T l = true) {t : TypeId} (ht : t ∈ l) {v : Value} {d : DataW H} {ps : List MemPlace} (hrow : ∀ ty, T t = some ty → (ty.row = true → ∃ cs, v = .agg cs) ∧ (ty.row = false → v.cells = #[v]))
    (hd : DataW.Trod enc P w base spare held t v d ps) : ∃ n x, Fits T n t (V.cells x) ∧ RepV (immG T) w x v ∧ ∀ ty, T t = some ty → x = mkEl ty.row (V.cells x) := by
  obtain ⟨fuel, hf⟩ := hd
  obtain ⟨xs, h1, h2, h3⟩ := trod_rep hT hl fuel t _ _ ht hf
  cases hTt : T t with
  | none => cases fuel <;> simp [Fits, hTt] at h2
  | some ty =>
  have h3 := h3 ty hTt
  obtain ⟨r1, r2⟩ := hrow ty hTt
  cases hr : ty.row with
  | true =>
    obtain ⟨cs, rfl⟩ := r1 hr
    refine ⟨fuel, .agg xs, h2, .agg xs cs (by rw [h1.len]; rfl) fun k y hk => ?_, fun ty' e => by cases e; rw [hr]; rfl⟩
    have := h1.rep k y hk
    simpa [Value.cells, List.getD_eq_getElem?_getD, Array.getD_eq_getD_getElem?] using this
  | false =>
    have hv := r2 hr
    rw [hv] at h1 h3
    have hl1 := h1.len
    simp at hl1
    match xs, hl1 with
    | [x], _ =>
      have ho := h1.one x (by simp)
      have hc : V.cells x = [x] := by cases x <;> first | rfl | cases ho
      exact ⟨fuel, x, by rw [hc]; exact h2, by simpa using h1.rep 0 x rfl, fun ty' e => by cases e; rw [hr, hc]; rfl⟩
end
end Go.Proofs.YtahemenhcoedgaaDoor.En

/- Conditions as plain data; the budget of the statements. -/
namespace Go.Proofs.YtahemenhcoedgaaDoor.En
open Go
set_option linter.unusedVariables false
/-- A list of conditions: the first one's operation, number and kids, and the rest of the list. -/
inductive Cl where
  | nil
  | cons (op n : Int) (kids : Cl) (rest : Cl)
  deriving DecidableEq
namespace Cl
def len : Cl → Nat
  | nil => 0
  | cons _ _ _ r => r.len + 1
def nodes : Cl → Nat
  | nil => 0
  | cons _ _ k r => k.nodes + r.nodes + 1
def enc : Cl → List V
  | nil => []
  | cons o n k r => .agg [.int .i64 o, .int .i64 n, .sl 24 k.enc] :: r.enc
def wf : Cl → Prop
  | nil => True
  | cons o n k r => (-9223372036854775808 ≤ o ∧ o ≤ 9223372036854775807) ∧ (-9223372036854775808 ≤ n ∧ n ≤ 9223372036854775807) ∧ k.len ≤ 9223372036854775807 ∧ k.wf ∧ r.wf
theorem enc_len : ∀ l : Cl, l.enc.length = l.len
  | nil => rfl
  | cons o n k r => by simp [enc, len, enc_len r]
theorem len_le : ∀ l : Cl, l.len ≤ l.nodes
  | nil => Nat.le_refl _
  | cons o n k r => by have := len_le r; simp only [len, nodes]; omega
end Cl
/-- The budget behind a list's nodes. -/
def lfl : Cl → Int → Int
  | .nil, b => b
  | .cons _ _ k r, b => if b < 0 then b else lfl r (lfl k (b - 1))
theorem lfl_le : ∀ (l : Cl) (b : Int), -1 ≤ b → -1 ≤ lfl l b ∧ lfl l b ≤ b
  | .nil, b, h => ⟨h, Int.le_refl _⟩
  | .cons _ _ k r, b, h => by
    unfold lfl
    split
    · omega
    · have h1 := lfl_le k (b - 1) (by omega)
      have h2 := lfl_le r _ h1.1
      omega
theorem lfl_neg (l : Cl) : lfl l (-1) = -1 := by have := lfl_le l (-1) (by omega); omega
theorem lfl_nodes : ∀ (l : Cl) (b : Int), 0 ≤ b → ((l.nodes : Int) ≤ b → lfl l b = b - l.nodes) ∧ (b < l.nodes → lfl l b = -1)
  | .nil, b, h => ⟨fun _ => by simp [lfl, Cl.nodes], fun h' => by simp [Cl.nodes] at h'; omega⟩
  | .cons _ _ k r, b, h => by
    unfold lfl
    simp only [Cl.nodes]
    rw [if_neg (by omega)]
    by_cases hb : b - 1 < 0
    · have e : b - 1 = -1 := by omega
      rw [e, lfl_neg, lfl_neg]; exact ⟨fun _ => by omega, fun _ => rfl⟩
    · obtain ⟨h1, h2⟩ := lfl_nodes k (b - 1) (by omega)
      by_cases hk : (k.nodes : Int) ≤ b - 1
      · rw [h1 hk]
        obtain ⟨h3, h4⟩ := lfl_nodes r (b - 1 - k.nodes) (by omega)
        exact ⟨fun _ => by rw [h3 (by omega)]; omega, fun _ => h4 (by omega)⟩
      · rw [h2 (by omega), lfl_neg]; exact ⟨fun _ => by omega, fun _ => rfl⟩
theorem left_loop {R : Type} (N : Nat) (f : Int → Int → List V → Int → Option Int) (n : Nat) (hf : ∀ (o m : Int) (k : Cl) (b : Int), k.nodes < n → k.wf → k.len ≤ 9223372036854775807 → 0 ≤ b → b ≤ 200 → f o m k.enc b = some (lfl k (b - 1))) (x y : Int) (K : Int → Option R) :
    ∀ (l : Cl) (pre : List V) (t : Nat) (b : Int), l.len < t → l.nodes ≤ n → l.wf → pre.length + l.len ≤ 9223372036854775807 → -1 ≤ b → b ≤ 200 →
      S_lleft_3 N f x y (pre ++ l.enc) t b (pre.length : Int) K = K (lfl l b)
  | .nil, pre, 0, b, ht, _, _, _, _, _ => by simp [Cl.len] at ht
  | .nil, pre, t + 1, b, ht, _, _, _, _, _ => by
    unfold S_lleft_3 F_lleft_3
    simp [Cl.enc, br, lfl]
  | .cons o m k r, pre, 0, b, ht, _, _, _, _, _ => by simp [Cl.len] at ht
  | .cons o m k r, pre, t + 1, b, ht, hn, hw, hl, hb1, hb2 => by
    simp only [Cl.len, Cl.nodes] at ht hn hl
    obtain ⟨_, _, hk1, hk2, hr⟩ := hw
    have ih := left_loop N f n hf x y K r (pre ++ [.agg [.int .i64 o, .int .i64 m, .sl 24 k.enc]]) t
    have e1 : pre ++ [V.agg [.int .i64 o, .int .i64 m, .sl 24 k.enc]] ++ r.enc = pre ++ .agg [.int .i64 o, .int .i64 m, .sl 24 k.enc] :: r.enc := by simp
    have e2 : ((pre ++ [V.agg [.int .i64 o, .int .i64 m, .sl 24 k.enc]]).length : Int) = (pre.length : Int) + 1 := by simp
    rw [e1, e2] at ih
    unfold S_lleft_3 F_lleft_3 lfl
    have h1 : (pre.length : Int) < ((pre ++ V.agg [.int .i64 o, .int .i64 m, .sl 24 k.enc] :: r.enc).length : Int) := by simp; omega
    have h2 : (0 : Int) ≤ pre.length := by omega
    have h3 : IntKind.i64.wrap ((pre.length : Int) + 1) = (pre.length : Int) + 1 := w64 (by omega) (by omega)
    simp only [Cl.enc, br_t, br_f, br_dec, br_not, br_and, br_or, bnd1_mk, bnd2_mk, bnd3_mk, bnd4_mk, bnd5_mk, at_zero, at_succ, at_mid, unInt_mk, unBool_mk, unStr_mk, unBytes_mk, unSl_mk, unAgg_mk, unCons_mk, unNil_mk, h1, h2, if_true, Int.toNat_natCast]
    by_cases c1 : b < 0
    · rw [if_pos c1, if_neg (by omega)]
    · rw [if_neg c1, if_pos (by omega)]
      rw [hf o m k b (by omega) hk2 hk1 (by omega) hb2, bnd1_mk, h3]
      have hle := lfl_le k (b - 1) (by omega)
      exact ih _ (by omega) (by omega) hr (by simp; omega) (by omega) (by omega)
/-- left of a condition. -/
theorem left_ok (N : Nat) : ∀ (n : Nat) (o m : Int) (k : Cl) (b : Int), n ≤ N → k.nodes < n → k.wf → k.len ≤ 9223372036854775807 → 0 ≤ b → b ≤ 200 → s_lleft N n o m k.enc b = some (lfl k (b - 1))
  | 0, o, m, k, b, _, h, _, _, _, _ => absurd h (Nat.not_lt_zero _)
  | n + 1, o, m, k, b, hN, h, hw, hl, h0, h1 => by
    unfold s_lleft B_lleft
    have hwr : IntKind.i64.wrap (b - 1) = b - 1 := w64 (by omega) (by omega)
    have hln := Cl.len_le k
    rw [hwr]
    exact left_loop N (s_lleft N n) n (fun o m k b a1 a2 a3 a4 a5 => left_ok N n o m k b (by omega) a1 a2 a3 a4 a5) o m _ k [] N (b - 1) (by omega) (by omega) hw (by simpa using hl) (by omega) (by omega)
end Go.Proofs.YtahemenhcoedgaaDoor.En

/- Which conditions are valid: the reference. -/
namespace Go.Proofs.YtahemenhcoedgaaDoor.En
open Go
set_option linter.unusedVariables false
/-- All of the list are valid. -/
def vL : Cl → Bool
  | .nil => true
  | .cons o m k r => (if o = 0 ∨ o = 1 then decide (m = 0) && decide (k.len = 0) else if o = 2 ∨ o = 3 then decide (1 ≤ m) && decide (m ≤ 8) && decide (k.len = 0)
      else if o = 4 then decide (1 ≤ m) && decide (m ≤ 5) && decide (k.len = 0) else if o = 5 then decide (1 ≤ m) && decide (bitsI BinOp.and IntKind.i64 51 m = m) && decide (k.len = 0)
      else if o = 6 ∨ o = 7 then decide (m = 0) && !decide (k.len = 0) && vL k else false) && vL r
def vC (o m : Int) (k : Cl) : Bool := vL (.cons o m k .nil)
theorem vL_cons (o m : Int) (k r : Cl) : vL (.cons o m k r) = (vC o m k && vL r) := by
  show _ = (vL (.cons o m k .nil) && vL r)
  simp only [vL, Bool.and_true]
theorem qvalid_loop {R : Type} (N : Nat) (f : Int → Int → List V → Option Bool) (n : Nat) (hf : ∀ (o m : Int) (k : Cl), k.nodes < n → k.wf → k.len ≤ 9223372036854775807 → f o m k.enc = some (vC o m k)) (x y : Int) (K0 : Bool → Option R) (K1 : Option R) :
    ∀ (l : Cl) (pre : List V) (t : Nat), l.len < t → l.nodes ≤ n → l.wf → pre.length + l.len ≤ 9223372036854775807 →
      S_qvalid_18 N f x y (pre ++ l.enc) t (pre.length : Int) K0 K1 = if vL l then K1 else K0 false
  | .nil, pre, 0, ht, _, _, _ => by simp [Cl.len] at ht
  | .nil, pre, t + 1, ht, _, _, _ => by
    unfold S_qvalid_18 F_qvalid_18
    simp [Cl.enc, br, vL]
  | .cons o m k r, pre, 0, ht, _, _, _ => by simp [Cl.len] at ht
  | .cons o m k r, pre, t + 1, ht, hn, hw, hl => by
    simp only [Cl.len, Cl.nodes] at ht hn hl
    obtain ⟨_, _, hk1, hk2, hr⟩ := hw
    have ih := qvalid_loop N f n hf x y K0 K1 r (pre ++ [.agg [.int .i64 o, .int .i64 m, .sl 24 k.enc]]) t
    have e1 : pre ++ [V.agg [.int .i64 o, .int .i64 m, .sl 24 k.enc]] ++ r.enc = pre ++ .agg [.int .i64 o, .int .i64 m, .sl 24 k.enc] :: r.enc := by simp
    have e2 : ((pre ++ [V.agg [.int .i64 o, .int .i64 m, .sl 24 k.enc]]).length : Int) = (pre.length : Int) + 1 := by simp
    rw [e1, e2] at ih
    unfold S_qvalid_18 F_qvalid_18
    have h1 : (pre.length : Int) < ((pre ++ V.agg [.int .i64 o, .int .i64 m, .sl 24 k.enc] :: r.enc).length : Int) := by simp; omega
    have h2 : (0 : Int) ≤ pre.length := by omega
    have h3 : IntKind.i64.wrap ((pre.length : Int) + 1) = (pre.length : Int) + 1 := w64 (by omega) (by omega)
    simp only [Cl.enc, br_t, br_f, br_dec, br_not, br_and, br_or, bnd1_mk, bnd2_mk, bnd3_mk, bnd4_mk, bnd5_mk, at_zero, at_succ, at_mid, unInt_mk, unBool_mk, unStr_mk, unBytes_mk, unSl_mk, unAgg_mk, unCons_mk, unNil_mk, h1, h2, if_true, Int.toNat_natCast]
    rw [hf o m k (by omega) hk2 hk1, bnd1_mk, h3, vL_cons, ih (by omega) (by omega) hr (by simp; omega)]
    cases vC o m k <;> simp [br]
/-- The reference's valid. -/
theorem qvalid_ok (N : Nat) : ∀ (n : Nat) (o m : Int) (k : Cl), n ≤ N → k.nodes < n → k.wf → k.len ≤ 9223372036854775807 → s_qvalid N n o m k.enc = some (vC o m k)
  | 0, o, m, k, _, h, _, _ => absurd h (Nat.not_lt_zero _)
  | n + 1, o, m, k, hN, h, hw, hl => by
    unfold s_qvalid B_qvalid
    have hln := Cl.len_le k
    have hL : S_qvalid_18 N (s_qvalid N n) o m k.enc N 0 (fun b => some b) (some true) = if vL k then some true else some false :=
      qvalid_loop N (s_qvalid N n) n (fun o m k a1 a2 a3 => qvalid_ok N n o m k (by omega) a1 a2 a3) o m _ _ k [] N (by omega) (by omega) hw (by simpa using hl)
    have hz : ((k.enc.length : Int) = 0) = (k.len = 0) := by rw [Cl.enc_len]; exact propext (by omega)
    simp only [hL, hz, s_qhas, bnd1_mk, br_dec, br_not, vC, vL, Bool.and_true]
    by_cases h0 : o = 0
    · subst h0; by_cases hm : m = 0 <;> simp [hm]
    by_cases h1 : o = 1
    · subst h1; by_cases hm : m = 0 <;> simp [hm]
    by_cases h2 : o = 2
    · subst h2; by_cases ha : 1 ≤ m <;> by_cases hb : m ≤ 8 <;> simp [ha, hb]
    by_cases h3 : o = 3
    · subst h3; by_cases ha : 1 ≤ m <;> by_cases hb : m ≤ 8 <;> simp [ha, hb]
    by_cases h4 : o = 4
    · subst h4; by_cases ha : 1 ≤ m <;> by_cases hb : m ≤ 5 <;> simp [ha, hb]
    by_cases h5 : o = 5
    · subst h5; by_cases ha : 1 ≤ m <;> by_cases hb : bitsI BinOp.and IntKind.i64 51 m = m <;> simp [ha, hb]
    by_cases h6 : o = 6
    · subst h6; by_cases hm : m = 0 <;> by_cases hk : k.len = 0 <;> cases hv : vL k <;> simp [hm, hk]
    by_cases h7 : o = 7
    · subst h7; by_cases hm : m = 0 <;> by_cases hk : k.len = 0 <;> cases hv : vL k <;> simp [hm, hk]
    simp [h0, h1, h2, h3, h4, h5, h6, h7]
end Go.Proofs.YtahemenhcoedgaaDoor.En

/- Words for security statuses: bits as vectors. No program in sight. -/
namespace Go.Proofs.YtahemenhcoedgaaDoor.En
open Go
set_option linter.unusedVariables false
def bv (a : Int) : BitVec 64 := BitVec.ofInt 64 a
theorem bv_toNat (a : Int) : (bv a).toNat = (a % 18446744073709551616).toNat := ofInt_toNat64 a
theorem bv_wrap (n : Int) : bv (IntKind.i64.wrap n) = bv n := by
  apply BitVec.eq_of_toNat_eq
  rw [bv_toNat, bv_toNat, IntKind.wrap_i64]; omega
theorem bv_nat (x : BitVec 64) : bv (x.toNat : Int) = x := by
  apply BitVec.eq_of_toNat_eq
  have := x.isLt
  rw [bv_toNat]; omega
theorem bv_inj {a b : Int} (ha : -9223372036854775808 ≤ a ∧ a ≤ 9223372036854775807) (hb : -9223372036854775808 ≤ b ∧ b ≤ 9223372036854775807) (h : bv a = bv b) : a = b := by
  have := congrArg BitVec.toNat h
  rw [bv_toNat, bv_toNat] at this; omega
theorem wrap_range (n : Int) : -9223372036854775808 ≤ IntKind.i64.wrap n ∧ IntKind.i64.wrap n ≤ 9223372036854775807 := by
  rw [IntKind.wrap_i64]; omega
theorem bv_and (a b : Int) : bv (bitsI .and .i64 a b) = bv a &&& bv b := by
  show bv (IntKind.i64.wrap ((bv a &&& bv b).toNat : Int)) = _
  rw [bv_wrap, bv_nat]
theorem and_range (a b : Int) : -9223372036854775808 ≤ bitsI .and .i64 a b ∧ bitsI .and .i64 a b ≤ 9223372036854775807 := wrap_range _
/-- All bits of y are in x. -/
def hasB (x y : BitVec 64) : Bool := decide (x &&& y = y)
theorem has_iff (a b : Int) (hb : -9223372036854775808 ≤ b ∧ b ≤ 9223372036854775807) : decide (bitsI .and .i64 a b = b) = hasB (bv a) (bv b) := by
  unfold hasB
  rw [decide_eq_decide]
  constructor
  · intro h; rw [← bv_and, h]
  · intro h; exact bv_inj (and_range a b) hb (by rw [bv_and, h])
theorem hasB_iff (x y : BitVec 64) : hasB x y = true ↔ ∀ i, i < 64 → y.getLsbD i = true → x.getLsbD i = true := by
  unfold hasB
  rw [decide_eq_true_iff]
  constructor
  · intro h i hi hy
    rw [← h, BitVec.getLsbD_and] at hy
    simp at hy; exact hy.1
  · intro h
    apply BitVec.eq_of_getLsbD_eq
    intro i hi
    rw [BitVec.getLsbD_and]
    cases hy : y.getLsbD i with
    | false => simp
    | true => simp [h i hi hy]
theorem hasB_refl (x : BitVec 64) : hasB x x = true := by rw [hasB_iff]; intros; assumption
theorem hasB_trans {x y z : BitVec 64} (h : hasB x y = true) (k : hasB y z = true) : hasB x z = true := by
  rw [hasB_iff] at *
  exact fun i hi hz => h i hi (k i hi hz)
/-- A security status: PINs, keys, state, level. -/
structure Sec where
  p : Int
  k : Int
  s : Int
  l : Int
def Sec.enc (x : Sec) : V := .agg [.int .i64 x.p, .int .i64 x.k, .int .i64 x.s, .int .i64 x.l]
/-- x has at most the rights of y. -/
def Sec.le (x y : Sec) : Prop := hasB (bv y.p) (bv x.p) = true ∧ hasB (bv y.k) (bv x.k) = true ∧ (x.s ≤ 0 ∨ x.s ≤ y.s) ∧ hasB (bv y.l) (bv x.l) = true
theorem Sec.le_refl (x : Sec) : x.le x := ⟨hasB_refl _, hasB_refl _, .inr (Int.le_refl _), hasB_refl _⟩
theorem Sec.le_trans {x y z : Sec} (h : x.le y) (k : y.le z) : x.le z := by
  obtain ⟨a, b, c, d⟩ := h
  obtain ⟨a', b', c', d'⟩ := k
  exact ⟨hasB_trans a' a, hasB_trans b' b, by omega, hasB_trans d' d⟩
def Sec.join (x y : Sec) : Sec := ⟨bitsI .or .i64 x.p y.p, bitsI .or .i64 x.k y.k, max x.s y.s, bitsI .or .i64 x.l y.l⟩
/-- 2^n, n from 0 to 62. -/
def p2 (n : Nat) : Int := ((2 ^ n : Nat) : Int)
theorem p2_range {n : Nat} (h : n ≤ 62) : 0 < p2 n ∧ p2 n ≤ 4611686018427387904 := by
  have hp : (2 ^ n : Nat) ≤ 2 ^ 62 := Nat.pow_le_pow_right (by omega) h
  have h0 : 0 < 2 ^ n := Nat.pos_of_ne_zero (by simp)
  unfold p2; omega
theorem shl1 {n : Nat} (h : n ≤ 62) : shlI .i64 1 (n : Int) = p2 n := by
  have := p2_range h
  show IntKind.i64.wrap (1 * 2 ^ (min ((n : Int).toNat) 64)) = _
  rw [Int.toNat_natCast, Nat.min_eq_left (by omega), Int.one_mul]
  have e : (2 : Int) ^ n = p2 n := by unfold p2; push_cast; rfl
  rw [e, w64 (by omega) (by omega)]
theorem shr_n (a : Int) {n : Nat} (h : n ≤ 62) : shrI .i64 a (n : Int) = a / p2 n := by
  have := p2_range h
  show a.fdiv (2 ^ (min ((n : Int).toNat) 64)) = _
  rw [Int.toNat_natCast, Nat.min_eq_left (by omega)]
  have e : (2 : Int) ^ n = p2 n := by unfold p2; push_cast; rfl
  rw [e, fdiv_pos _ _ (by omega)]
theorem and1 (a : Int) : bitsI .and .i64 a 1 = a % 2 := and_mask a 1 (by omega)
/-- The program's test of a bit is the reference's. -/
theorem bit_test (a : Int) {n : Nat} (h : n ≤ 62) : decide (bitsI .and .i64 (shrI .i64 a (n : Int)) 1 = 1) = hasB (bv a) (bv (p2 n)) := by
  have h2 := p2_range h
  rw [← has_iff a (p2 n) (by omega), shr_n a h, and1, decide_eq_decide]
  have := and_bit a n h
  show _ ↔ bitsI .and .i64 a ((2 ^ n : Nat) : Int) = ((2 ^ n : Nat) : Int)
  rw [this]
  have e : ((2 ^ n : Nat) : Int) = p2 n := rfl
  rw [e]
  have h3 : a / p2 n % 2 = 0 ∨ a / p2 n % 2 = 1 := by omega
  rcases h3 with h3 | h3 <;> rw [h3] <;> simp <;> omega
/-- One condition without kids, given its operation and number. -/
def satB (x : Sec) (o m : Int) : Bool :=
  if o = 1 then true else if o = 2 then hasB (bv x.p) (bv (p2 m.toNat)) else if o = 3 then hasB (bv x.k) (bv (p2 m.toNat)) else if o = 4 then decide (m ≤ x.s) else if o = 5 then hasB (bv x.l) (bv m) else false
end Go.Proofs.YtahemenhcoedgaaDoor.En

/- Which conditions imply which: plain. -/
namespace Go.Proofs.YtahemenhcoedgaaDoor.En
open Go
set_option linter.unusedVariables false
/-- All of the list are satisfied; one of the list is satisfied. -/
def sq (x : Sec) : Cl → Bool → Bool
  | .nil, all => all
  | .cons o m k r, all => bif all then (if o = 6 then sq x k true else if o = 7 then sq x k false else satB x o m) && sq x r true else (if o = 6 then sq x k true else if o = 7 then sq x k false else satB x o m) || sq x r false
def satC (x : Sec) (o m : Int) (k : Cl) : Bool := if o = 6 then sq x k true else if o = 7 then sq x k false else satB x o m
theorem sq_cons (x : Sec) (o m : Int) (k r : Cl) (all : Bool) : sq x (.cons o m k r) all = bif all then satC x o m k && sq x r true else satC x o m k || sq x r false := by
  conv => lhs; unfold sq
  rfl
/-- What is known of a valid condition. -/
theorem vC_leaf {o m : Int} {k : Cl} (h : vC o m k = true) : (o = 0 ∧ m = 0 ∧ k = .nil) ∨ (o = 1 ∧ m = 0 ∧ k = .nil) ∨ (o = 2 ∧ 1 ≤ m ∧ m ≤ 8 ∧ k = .nil) ∨ (o = 3 ∧ 1 ≤ m ∧ m ≤ 8 ∧ k = .nil) ∨ (o = 4 ∧ 1 ≤ m ∧ m ≤ 5 ∧ k = .nil) ∨ (o = 5 ∧ 1 ≤ m ∧ bitsI BinOp.and IntKind.i64 51 m = m ∧ k = .nil) ∨ ((o = 6 ∨ o = 7) ∧ m = 0 ∧ k ≠ .nil ∧ vL k = true) := by
  have hnil : ∀ k : Cl, k.len = 0 → k = .nil := by intro k; cases k <;> simp [Cl.len]
  simp only [vC, vL, Bool.and_true] at h
  by_cases h0 : o = 0 ∨ o = 1
  · rw [if_pos h0] at h
    simp only [Bool.and_eq_true, decide_eq_true_eq] at h
    have := hnil k h.2
    rcases h0 with h0 | h0
    · exact .inl ⟨h0, h.1, this⟩
    · exact .inr (.inl ⟨h0, h.1, this⟩)
  rw [if_neg h0] at h
  by_cases h2 : o = 2 ∨ o = 3
  · rw [if_pos h2] at h
    simp only [Bool.and_eq_true, decide_eq_true_eq] at h
    have := hnil k h.2
    rcases h2 with h2 | h2
    · exact .inr (.inr (.inl ⟨h2, h.1.1, h.1.2, this⟩))
    · exact .inr (.inr (.inr (.inl ⟨h2, h.1.1, h.1.2, this⟩)))
  rw [if_neg h2] at h
  by_cases h4 : o = 4
  · rw [if_pos h4] at h
    simp only [Bool.and_eq_true, decide_eq_true_eq] at h
    exact .inr (.inr (.inr (.inr (.inl ⟨h4, h.1.1, h.1.2, hnil k h.2⟩))))
  rw [if_neg h4] at h
  by_cases h5 : o = 5
  · rw [if_pos h5] at h
    simp only [Bool.and_eq_true, decide_eq_true_eq] at h
    exact .inr (.inr (.inr (.inr (.inr (.inl ⟨h5, h.1.1, h.1.2, hnil k h.2⟩)))))
  rw [if_neg h5] at h
  by_cases h6 : o = 6 ∨ o = 7
  · rw [if_pos h6] at h
    simp only [Bool.and_eq_true, decide_eq_true_eq, Bool.not_eq_true', decide_eq_false_iff_not] at h
    exact .inr (.inr (.inr (.inr (.inr (.inr ⟨h6, h.1.1, fun e => h.1.2 (by rw [e]; rfl), h.2⟩)))))
  · rw [if_neg h6] at h; cases h
/-! The program's statuses -/
instance : DecidableEq Sec := fun x y => by
  cases x with | mk a b c d => cases y with | mk e f g h =>
  exact decidable_of_iff (a = e ∧ b = f ∧ c = g ∧ d = h) (by simp)
def addS (next : List Sec) (s : Sec) : List Sec := if s ∈ next then next else next ++ [s]
def prod1 (x : Sec) : List Sec → List Sec → List Sec
  | next, [] => next
  | next, y :: ys => prod1 x (addS next (x.join y)) ys
def prod (ys : List Sec) : List Sec → List Sec → List Sec
  | next, [] => next
  | next, x :: xs => prod ys (prod1 x next ys) xs
def zeroS : Sec := ⟨0, 0, 0, 0⟩
def baseS (o m : Int) : List Sec :=
  if o = 1 then [zeroS] else if o = 2 then [⟨p2 m.toNat, 0, 0, 0⟩] else if o = 3 then [⟨0, p2 m.toNat, 0, 0⟩] else if o = 4 then [⟨0, 0, m, 0⟩] else if o = 5 then [⟨0, 0, 0, m⟩] else []
def lq : Cl → Bool → List Sec → List Sec
  | .nil, _, out => out
  | .cons o m k r, all, out => lq r all (bif all then prod out [] (if o = 6 then lq k true [zeroS] else if o = 7 then lq k false [] else baseS o m) else out ++ (if o = 6 then lq k true [zeroS] else if o = 7 then lq k false [] else baseS o m))
def lC (o m : Int) (k : Cl) : List Sec := if o = 6 then lq k true [zeroS] else if o = 7 then lq k false [] else baseS o m
theorem lq_cons (o m : Int) (k r : Cl) (all : Bool) (out : List Sec) : lq (.cons o m k r) all out = lq r all (bif all then prod out [] (lC o m k) else out ++ lC o m k) := by
  conv => lhs; unfold lq
  rfl
theorem len_addS (next : List Sec) (s : Sec) : (addS next s).length ≤ next.length + 1 := by
  unfold addS; split <;> simp
theorem len_prod1 (x : Sec) : ∀ (ys next : List Sec), (prod1 x next ys).length ≤ next.length + ys.length
  | [], next => by simp [prod1]
  | y :: ys, next => by
    unfold prod1
    have := len_prod1 x ys (addS next (x.join y))
    have := len_addS next (x.join y)
    simp only [List.length_cons]; omega
theorem len_prod (ys : List Sec) : ∀ (xs next : List Sec), (prod ys next xs).length ≤ next.length + xs.length * ys.length
  | [], next => by simp [prod]
  | x :: xs, next => by
    unfold prod
    have := len_prod ys xs (prod1 x next ys)
    have := len_prod1 x ys next
    rw [List.length_cons, Nat.succ_mul]; omega
theorem two_add (a b : Nat) : 2 ^ a + 2 ^ b ≤ 2 ^ (a + b + 1) := by
  have h1 : 2 ^ a ≤ 2 ^ (a + b) := Nat.pow_le_pow_right (by omega) (by omega)
  have h2 : 2 ^ b ≤ 2 ^ (a + b) := Nat.pow_le_pow_right (by omega) (by omega)
  rw [Nat.pow_succ]; omega
theorem len_base (o m : Int) : (baseS o m).length ≤ 1 := by
  unfold baseS
  (repeat' split) <;> simp
theorem len_lq : ∀ (l : Cl) (out : List Sec), (lq l true out).length ≤ out.length * 2 ^ l.nodes ∧ (lq l false out).length ≤ out.length + 2 ^ l.nodes
  | .nil, out => by simp [lq, Cl.nodes]
  | .cons o m k r, out => by
    rw [lq_cons, lq_cons]
    have hk := len_lq k [zeroS]
    have hk2 := len_lq k []
    have hp : 1 ≤ 2 ^ k.nodes := Nat.one_le_two_pow
    have hpr : 1 ≤ 2 ^ r.nodes := Nat.one_le_two_pow
    have hl : (lC o m k).length ≤ 2 ^ k.nodes := by
      unfold lC
      split
      · simpa using hk.1
      split
      · simpa using hk2.2
      · exact Nat.le_trans (len_base o m) hp
    have h1 := (len_lq r (prod out [] (lC o m k))).1
    have h2 := (len_lq r (out ++ lC o m k)).2
    have h3 := len_prod out (lC o m k) []
    constructor
    · simp only [cond_true, Cl.nodes]
      refine Nat.le_trans h1 ?_
      have e : out.length * 2 ^ (k.nodes + r.nodes + 1) = (2 ^ k.nodes * out.length) * 2 ^ r.nodes * 2 := by
        rw [Nat.pow_succ, Nat.pow_add]; simp only [Nat.mul_comm, Nat.mul_left_comm, Nat.mul_assoc]
      rw [e]
      have h4 : (prod out [] (lC o m k)).length ≤ 2 ^ k.nodes * out.length := by
        refine Nat.le_trans h3 ?_
        simp only [List.length_nil, Nat.zero_add]
        exact Nat.mul_le_mul_right _ hl
      have h5 := Nat.mul_le_mul_right (2 ^ r.nodes) h4
      omega
    · simp only [cond_false, Cl.nodes]
      refine Nat.le_trans h2 ?_
      rw [List.length_append]
      have := two_add k.nodes r.nodes
      omega
end Go.Proofs.YtahemenhcoedgaaDoor.En

/- Which conditions imply which: the reference's trial of all statuses. Plain. -/
namespace Go.Proofs.YtahemenhcoedgaaDoor.En
open Go
set_option linter.unusedVariables false
abbrev At := Int × Int
theorem level_range {n : Int} (h1 : 1 ≤ n) (h : bitsI BinOp.and IntKind.i64 51 n = n) : n ≤ 51 := by
  have e : bitsI BinOp.and IntKind.i64 51 n = IntKind.i64.wrap ((bv 51 &&& bv n).toNat : Int) := rfl
  have h2 : (bv 51 &&& bv n).toNat ≤ 51 := by
    rw [BitVec.toNat_and]
    exact Nat.le_trans Nat.and_le_left (by decide)
  rw [e, w64 (by omega) (by omega)] at h
  omega
/-! The trial -/
/-- What is still to come is not there. -/
def fresh (s : Sec) (l : List At) : Prop := ∀ a ∈ l, (a.1 = 2 → bv s.p &&& bv (p2 a.2.toNat) = 0#64) ∧ (a.1 = 3 → bv s.k &&& bv (p2 a.2.toNat) = 0#64) ∧ (a.1 = 5 → bv s.l &&& bv a.2 = 0#64)
end Go.Proofs.YtahemenhcoedgaaDoor.En

/- Lists of data objects as plain data; the budget of the statements. -/
namespace Go.Proofs.YtahemenhcoedgaaDoor.En
open Go
set_option linter.unusedVariables false
/-- A list of data objects: the first one's tag, value and kids, and the rest of the list. -/
inductive Tl where
  | nil
  | cons (tag : Int) (value : List UInt8) (kids : Tl) (rest : Tl)
  deriving DecidableEq
namespace Tl
def len : Tl → Nat
  | nil => 0
  | cons _ _ _ r => r.len + 1
def nodes : Tl → Nat
  | nil => 0
  | cons _ _ k r => k.nodes + r.nodes + 1
def append : Tl → Tl → Tl
  | nil, u => u
  | cons t v k r, u => cons t v k (r.append u)
def enc : Tl → List V
  | nil => []
  | cons t v k r => .agg [.int .i64 t, .bytes v, .sl 67 k.enc] :: r.enc
/-- As it came in: tags are of type int, slices have lengths. -/
def wf : Tl → Prop
  | nil => True
  | cons t v k r => (-9223372036854775808 ≤ t ∧ t ≤ 9223372036854775807) ∧ v.length ≤ 9223372036854775807 ∧ k.len ≤ 9223372036854775807 ∧ k.wf ∧ r.wf
/-- Objects and bytes. -/
def wt : Tl → Nat
  | nil => 0
  | cons _ v k r => v.length + 1 + k.wt + r.wt
theorem enc_len : ∀ l : Tl, l.enc.length = l.len
  | nil => rfl
  | cons t v k r => by simp [enc, len, enc_len r]
theorem len_le : ∀ l : Tl, l.len ≤ l.nodes
  | nil => Nat.le_refl _
  | cons t v k r => by have := len_le r; simp only [len, nodes]; omega
theorem nodes_le : ∀ l : Tl, l.nodes ≤ l.wt
  | nil => Nat.le_refl _
  | cons t v k r => by have := nodes_le k; have := nodes_le r; simp only [wt, nodes]; omega
theorem enc_append : ∀ a b : Tl, (a.append b).enc = a.enc ++ b.enc
  | nil, b => rfl
  | cons t v k r, b => by simp only [append, enc, enc_append r b, List.cons_append]
theorem len_append : ∀ a b : Tl, (a.append b).len = a.len + b.len
  | nil, b => by simp [append, len]
  | cons t v k r, b => by simp only [append, len, len_append r b]; omega
theorem append_nil : ∀ a : Tl, a.append nil = a
  | nil => rfl
  | cons t v k r => by simp only [append, append_nil r]
/-- Small enough: no number overflows. -/
theorem len_wt (l : Tl) : l.len ≤ l.wt := Nat.le_trans (len_le l) (nodes_le l)
end Tl
end Go.Proofs.YtahemenhcoedgaaDoor.En

/- Tags and lengths of data objects: what the program and the reference compute. -/
namespace Go.Proofs.YtahemenhcoedgaaDoor.En
open Go
set_option linter.unusedVariables false
def I64 (t : Int) : Prop := -9223372036854775808 ≤ t ∧ t ≤ 9223372036854775807
def tagV (t : Int) : Bool := decide ((1 ≤ t ∧ t ≤ 255 ∧ t % 32 ≠ 31) ∨ (256 ≤ t ∧ t ≤ 65535 ∧ t / 256 % 32 = 31 ∧ 31 ≤ t % 256 ∧ t % 256 ≤ 127))
def tagC (t : Int) : Bool := tagV t && decide ((if 255 < t then t / 256 else t) / 32 % 2 = 1)
theorem tagV_range {t : Int} (h : tagV t = true) : 1 ≤ t ∧ t ≤ 65535 := by simp [tagV] at h; omega
theorem Valid_eq (N : Nat) (t : Int) (h : I64 t) : s_Valid N t = some (tagV t) := by
  unfold s_Valid
  simp only [br_t, br_f, br_dec, br_not, br_and, br_or, bnd1_mk, bnd2_mk, bnd3_mk, bnd4_mk, bnd5_mk, at_zero, at_succ, at_mid, unInt_mk, unBool_mk, unStr_mk, unBytes_mk, unSl_mk, unAgg_mk, unCons_mk, unNil_mk, and31, and255, shr8]
  repeat' split
  all_goals (congr 1; rw [Bool.eq_iff_iff]; simp [tagV]; omega)
theorem rValid_eq (N : Nat) (t : Int) (h : I64 t) : s_rValid N t = some (tagV t) := by
  unfold s_rValid
  simp only [br_t, br_f, br_dec, br_not, br_and, br_or, bnd1_mk, bnd2_mk, bnd3_mk, bnd4_mk, bnd5_mk, at_zero, at_succ, at_mid, unInt_mk, unBool_mk, unStr_mk, unBytes_mk, unSl_mk, unAgg_mk, unCons_mk, unNil_mk]
  by_cases h0 : 1 ≤ t
  · have e1 : t.tmod 32 = t % 32 := Int.tmod_eq_emod_of_nonneg (by omega)
    have e2 : t.tmod 256 = t % 256 := Int.tmod_eq_emod_of_nonneg (by omega)
    have e3 : t.tdiv 256 = t / 256 := Int.tdiv_eq_ediv_of_nonneg (by omega)
    have e4 : IntKind.i64.wrap (t / 256) = t / 256 := w64 (by unfold I64 at h; omega) (by unfold I64 at h; omega)
    have e5 : (t / 256).tmod 32 = t / 256 % 32 := Int.tmod_eq_emod_of_nonneg (by omega)
    simp only [e1, e2, e3, e4, e5]
    repeat' split
    all_goals (congr 1; rw [Bool.eq_iff_iff]; simp [tagV]; omega)
  · rw [if_neg h0, if_neg (by omega)]
    congr 1; rw [Bool.eq_iff_iff]; simp [tagV]; omega
theorem Constructed_eq (N : Nat) (t : Int) (h : I64 t) : s_Constructed N t = some (tagC t) := by
  unfold s_Constructed tagC
  simp only [br_t, br_f, br_dec, br_not, br_and, br_or, bnd1_mk, bnd2_mk, bnd3_mk, bnd4_mk, bnd5_mk, at_zero, at_succ, at_mid, unInt_mk, unBool_mk, unStr_mk, unBytes_mk, unSl_mk, unAgg_mk, unCons_mk, unNil_mk, Valid_eq N t h, and32, shr8]
  cases tagV t with
  | false => simp [br]
  | true =>
    simp only [br_t, Bool.true_and]
    by_cases hc : 255 < t
    · rw [if_pos hc, if_pos hc]; congr 1; rw [Bool.eq_iff_iff]; simp; omega
    · rw [if_neg hc, if_neg hc]; congr 1; rw [Bool.eq_iff_iff]; simp; omega
theorem rConstructed_eq (N : Nat) (t : Int) (h : I64 t) : s_rConstructed N t = some (tagC t) := by
  unfold s_rConstructed s_rfirst tagC
  simp only [br_t, br_f, br_dec, br_not, br_and, br_or, bnd1_mk, bnd2_mk, bnd3_mk, bnd4_mk, bnd5_mk, at_zero, at_succ, at_mid, unInt_mk, unBool_mk, unStr_mk, unBytes_mk, unSl_mk, unAgg_mk, unCons_mk, unNil_mk, rValid_eq N t h]
  cases ht : tagV t with
  | false => simp [br]
  | true =>
    have hr := tagV_range ht
    have e3 : t.tdiv 256 = t / 256 := Int.tdiv_eq_ediv_of_nonneg (by omega)
    have e4 : IntKind.i64.wrap (t / 256) = t / 256 := w64 (by omega) (by omega)
    have e5 : ∀ x : Int, 1 ≤ x → x ≤ 65535 → (IntKind.i64.wrap (x.tdiv 32)).tmod 2 = x / 32 % 2 := fun x h1 h2 => by
      rw [Int.tdiv_eq_ediv_of_nonneg (by omega), w64 (by omega) (by omega)]
      exact Int.tmod_eq_emod_of_nonneg (by omega)
    simp only [br_t, Bool.true_and, e3, e4]
    by_cases hc : 255 < t
    · rw [if_pos hc, if_pos hc, bnd1_mk, e5 _ (by omega) (by omega)]
    · rw [if_neg hc, if_neg hc, bnd1_mk, e5 _ (by omega) (by omega)]
/-! The bytes of tags and lengths -/
def byteI (n : Int) : UInt8 := UInt8.ofNat (n % 256).toNat
theorem byteI_toNat (n : Int) : ((byteI n).toNat : Int) = n % 256 := by
  unfold byteI
  rw [UInt8.toNat_ofNat', Nat.mod_eq_of_lt (by omega)]; omega
theorem byteI_u8 (u : UInt8) : byteI (u.toNat : Int) = u := by
  apply UInt8.toNat_inj.1
  have := byteI_toNat (u.toNat : Int)
  have := u8_lt u
  omega
theorem byteI_eq {n : Int} {u : UInt8} (h : n % 256 = u.toNat) : byteI n = u := by
  apply UInt8.toNat_inj.1
  have := byteI_toNat n
  omega
def tagB (t : Int) : List UInt8 := if 255 < t then [byteI (t / 256), byteI t] else [byteI t]
def lenB (n : Int) : List UInt8 := if n < 128 then [byteI n] else if n < 256 then [129, byteI n] else [130, byteI (n / 256), byteI n]
theorem tagBytes_eq (N : Nat) (t : Int) : s_tagBytes N t = some (tagB t) := by
  unfold s_tagBytes tagB byteI
  simp only [br_t, br_f, br_dec, br_not, br_and, br_or, bnd1_mk, bnd2_mk, bnd3_mk, bnd4_mk, bnd5_mk, at_zero, at_succ, at_mid, unInt_mk, unBool_mk, unStr_mk, unBytes_mk, unSl_mk, unAgg_mk, unCons_mk, unNil_mk, shr8, wu8]
  split <;> rfl
theorem lengthBytes_eq (N : Nat) (n : Int) : s_lengthBytes N n = some (lenB n) := by
  unfold s_lengthBytes lenB byteI
  simp only [br_t, br_f, br_dec, br_not, br_and, br_or, bnd1_mk, bnd2_mk, bnd3_mk, bnd4_mk, bnd5_mk, at_zero, at_succ, at_mid, unInt_mk, unBool_mk, unStr_mk, unBytes_mk, unSl_mk, unAgg_mk, unCons_mk, unNil_mk, shr8, wu8]
  repeat' split
  all_goals rfl
theorem rhead_eq (N : Nat) (t n : Int) (ht : 0 ≤ t ∧ t ≤ 65535) (hn : 0 ≤ n ∧ n ≤ 65535) : s_rhead N t n = some (tagB t ++ lenB n) := by
  have e1 : ∀ x : Int, 0 ≤ x ∧ x ≤ 65535 → IntKind.i64.wrap (x.tdiv 256) = x / 256 := fun x h => by
    rw [Int.tdiv_eq_ediv_of_nonneg h.1, w64 (by omega) (by omega)]
  have e2 : ∀ x : Int, 0 ≤ x ∧ x ≤ 65535 → x.tmod 256 = x % 256 := fun x h => Int.tmod_eq_emod_of_nonneg h.1
  unfold s_rhead tagB lenB byteI
  simp only [br_t, br_f, br_dec, br_not, br_and, br_or, bnd1_mk, bnd2_mk, bnd3_mk, bnd4_mk, bnd5_mk, at_zero, at_succ, at_mid, unInt_mk, unBool_mk, unStr_mk, unBytes_mk, unSl_mk, unAgg_mk, unCons_mk, unNil_mk, wu8, e1 t ht, e1 n hn, e2 t ht, e2 n hn, Int.emod_emod_of_dvd _ (Int.dvd_refl 256)]
  have q1 : (n < 128) ↔ ¬ (128 ≤ n) := by omega
  have q2 : (n < 256) ↔ ¬ (256 ≤ n) := by omega
  simp only [q1, q2]
  by_cases h1 : 255 < t <;> by_cases h2 : 256 ≤ n <;> by_cases h3 : 128 ≤ n
  all_goals simp only [h1, h2, h3, if_true, if_false, not_true, not_false_iff, List.cons_append, List.nil_append]
  all_goals first | rfl | omega
end Go.Proofs.YtahemenhcoedgaaDoor.En

/- The bytes of conditions: there and back. Plain. -/
namespace Go.Proofs.YtahemenhcoedgaaDoor.En
open Go
set_option linter.unusedVariables false
/-- The bytes of a list of conditions. -/
def eL : Cl → List UInt8
  | .nil => []
  | .cons o m k r => (byteI o :: (if 6 ≤ o then byteI (k.len : Int) :: eL k else if 2 ≤ o then [byteI m] else [])) ++ eL r
def eC (o m : Int) (k : Cl) : List UInt8 := byteI o :: (if 6 ≤ o then byteI (k.len : Int) :: eL k else if 2 ≤ o then [byteI m] else [])
theorem eL_cons (o m : Int) (k r : Cl) : eL (.cons o m k r) = eC o m k ++ eL r := by
  conv => lhs; unfold eL
  rfl
/-- The depth. -/
def Cl.dep : Cl → Nat
  | .nil => 0
  | .cons _ _ k r => max (k.dep + 1) r.dep
theorem Cl.dep_le : ∀ l : Cl, l.dep ≤ l.nodes
  | .nil => Nat.le_refl _
  | .cons o m k r => by
    have := dep_le k
    have := dep_le r
    simp only [Cl.dep, Cl.nodes]; omega
theorem eL_len : ∀ l : Cl, (eL l).length ≤ 2 * l.nodes
  | .nil => Nat.le_refl _
  | .cons o m k r => by
    have h1 := eL_len k
    have h2 := eL_len r
    rw [eL_cons]
    unfold eC
    simp only [List.length_append, List.length_cons, Cl.nodes]
    split
    · simp only [List.length_cons]; omega
    split
    · simp; omega
    · simp; omega
/-! Reading -/
def rdL (f : List UInt8 → Option ((Int × Int × Cl) × List UInt8)) : Nat → List UInt8 → Option (Cl × List UInt8)
  | 0, b => some (.nil, b)
  | n + 1, b => match f b with
    | none => none
    | some ((o, m, k), rest) => match rdL f n rest with
      | none => none
      | some (r, rest') => some (.cons o m k r, rest')
def rd (lim : Int) : Nat → List UInt8 → Option ((Int × Int × Cl) × List UInt8)
  | 0, _ => none
  | _ + 1, [] => none
  | d + 1, op :: b =>
    if lim < (op.toNat : Int) then none
    else if (op.toNat : Int) < 2 then some (((op.toNat : Int), 0, .nil), b)
    else match b with
      | [] => none
      | n :: b =>
        if (op.toNat : Int) < 6 then some (((op.toNat : Int), (n.toNat : Int), .nil), b)
        else match rdL (rd lim d) n.toNat b with
          | none => none
          | some (k, rest) => some (((op.toNat : Int), 0, k), rest)
theorem rdL_ok {f : List UInt8 → Option ((Int × Int × Cl) × List UInt8)} (hf : ∀ b o m k rest, f b = some ((o, m, k), rest) → b = eC o m k ++ rest) : ∀ (n : Nat) (b : List UInt8) (l : Cl) (rest : List UInt8), rdL f n b = some (l, rest) → l.len = n ∧ b = eL l ++ rest
  | 0, b, l, rest, h => by
    simp only [rdL, Option.some.injEq, Prod.mk.injEq] at h
    obtain ⟨rfl, rfl⟩ := h
    exact ⟨rfl, rfl⟩
  | n + 1, b, l, rest, h => by
    unfold rdL at h
    split at h
    · cases h
    · rename_i o m k r1 h1
      split at h
      · cases h
      · rename_i r r2 h2
        simp only [Option.some.injEq, Prod.mk.injEq] at h
        obtain ⟨rfl, rfl⟩ := h
        obtain ⟨h3, h4⟩ := rdL_ok hf n r1 r r2 h2
        refine ⟨by simp [Cl.len, h3], ?_⟩
        rw [hf b o m k r1 h1, h4, eL_cons, List.append_assoc]
/-- What is read is encoded to the bytes that were read. -/
theorem rd_ok (lim : Int) : ∀ (d : Nat) (b : List UInt8) (o m : Int) (k : Cl) (rest : List UInt8), rd lim d b = some ((o, m, k), rest) → b = eC o m k ++ rest
  | 0, b, o, m, k, rest, h => by simp [rd] at h
  | d + 1, [], o, m, k, rest, h => by simp [rd] at h
  | d + 1, op :: b, o, m, k, rest, h => by
    have ho := u8_lt op
    unfold rd at h
    split at h
    · cases h
    split at h
    · simp only [Option.some.injEq, Prod.mk.injEq] at h
      obtain ⟨⟨rfl, rfl, rfl⟩, rfl⟩ := h
      unfold eC
      rw [if_neg (by omega), if_neg (by omega), byteI_u8]; rfl
    rename_i c1 c2
    cases b with
    | nil => cases h
    | cons n b =>
      simp only at h
      split at h
      · simp only [Option.some.injEq, Prod.mk.injEq] at h
        obtain ⟨⟨rfl, rfl, rfl⟩, rfl⟩ := h
        unfold eC
        rw [if_neg (by omega), if_pos (by omega), byteI_u8, byteI_u8]; rfl
      · rename_i c3
        split at h
        · cases h
        · rename_i l r1 h1
          simp only [Option.some.injEq, Prod.mk.injEq] at h
          obtain ⟨⟨rfl, rfl, rfl⟩, rfl⟩ := h
          obtain ⟨h2, h3⟩ := rdL_ok (fun b o m k rest => rd_ok lim d b o m k rest) n.toNat b l r1 h1
          unfold eC
          rw [if_pos (by omega), byteI_u8, h2, byteI_u8, h3]; rfl
/-- What is read is short and has small numbers. -/
theorem rdL_wf {f : List UInt8 → Option ((Int × Int × Cl) × List UInt8)} (hf : ∀ b o m k rest, f b = some ((o, m, k), rest) → (Cl.cons o m k .nil).wf ∧ k.nodes + 1 + rest.length ≤ b.length) : ∀ (n : Nat) (b : List UInt8) (l : Cl) (rest : List UInt8), rdL f n b = some (l, rest) → l.wf ∧ l.nodes + rest.length ≤ b.length
  | 0, b, l, rest, h => by
    simp only [rdL, Option.some.injEq, Prod.mk.injEq] at h
    obtain ⟨rfl, rfl⟩ := h
    exact ⟨trivial, by simp [Cl.nodes]⟩
  | n + 1, b, l, rest, h => by
    unfold rdL at h
    split at h
    · cases h
    · rename_i o m k r1 h1
      split at h
      · cases h
      · rename_i r r2 h2
        simp only [Option.some.injEq, Prod.mk.injEq] at h
        obtain ⟨rfl, rfl⟩ := h
        obtain ⟨h3, h4⟩ := rdL_wf hf n r1 r r2 h2
        obtain ⟨⟨a1, a2, a3, a4, _⟩, h6⟩ := hf b o m k r1 h1
        exact ⟨⟨a1, a2, a3, a4, h3⟩, by simp only [Cl.nodes]; omega⟩
theorem rd_wf (lim : Int) : ∀ (d : Nat) (b : List UInt8) (o m : Int) (k : Cl) (rest : List UInt8), rd lim d b = some ((o, m, k), rest) → (Cl.cons o m k .nil).wf ∧ k.nodes + 1 + rest.length ≤ b.length
  | 0, b, o, m, k, rest, h => by simp [rd] at h
  | d + 1, [], o, m, k, rest, h => by simp [rd] at h
  | d + 1, op :: b, o, m, k, rest, h => by
    have ho := u8_lt op
    unfold rd at h
    split at h
    · cases h
    split at h
    · simp only [Option.some.injEq, Prod.mk.injEq] at h
      obtain ⟨⟨rfl, rfl, rfl⟩, rfl⟩ := h
      exact ⟨⟨by omega, by omega, by simp [Cl.len], trivial, trivial⟩, by simp [Cl.nodes]; omega⟩
    rename_i c1 c2
    cases b with
    | nil => cases h
    | cons n b =>
      have hn := u8_lt n
      simp only at h
      split at h
      · simp only [Option.some.injEq, Prod.mk.injEq] at h
        obtain ⟨⟨rfl, rfl, rfl⟩, rfl⟩ := h
        exact ⟨⟨by omega, by omega, by simp [Cl.len], trivial, trivial⟩, by simp [Cl.nodes]; omega⟩
      · rename_i c3
        split at h
        · cases h
        · rename_i l r1 h1
          simp only [Option.some.injEq, Prod.mk.injEq] at h
          obtain ⟨⟨rfl, rfl, rfl⟩, rfl⟩ := h
          obtain ⟨h2, h3⟩ := rdL_wf (fun b o m k rest => rd_wf lim d b o m k rest) n.toNat b l r1 h1
          obtain ⟨h4, _⟩ := rdL_ok (fun b o m k rest => rd_ok lim d b o m k rest) n.toNat b l r1 h1
          exact ⟨⟨by omega, by omega, by omega, h2, trivial⟩, by simp; omega⟩
theorem rdL_mono {f g : List UInt8 → Option ((Int × Int × Cl) × List UInt8)} (hf : ∀ b x, f b = some x → g b = some x) : ∀ (n : Nat) (b : List UInt8) (x : Cl × List UInt8), rdL f n b = some x → rdL g n b = some x
  | 0, b, x, h => h
  | n + 1, b, x, h => by
    unfold rdL at h ⊢
    split at h
    · cases h
    · rename_i o m k r1 h1
      rw [hf _ _ h1]
      simp only
      split at h
      · cases h
      · rename_i r r2 h2
        rw [rdL_mono hf n r1 _ h2]
        exact h
theorem rd_mono {lim lim' : Int} (hl : lim ≤ lim') : ∀ (d d' : Nat) (b : List UInt8) (x : (Int × Int × Cl) × List UInt8), d ≤ d' → rd lim d b = some x → rd lim' d' b = some x
  | 0, d', b, x, _, h => by simp [rd] at h
  | d + 1, 0, b, x, hd, h => by omega
  | d + 1, d' + 1, [], x, hd, h => by simp [rd] at h
  | d + 1, d' + 1, op :: b, x, hd, h => by
    unfold rd at h ⊢
    split at h
    · cases h
    rename_i c0
    rw [if_neg (by omega)]
    split at h
    · rename_i c1
      rw [if_pos c1]; exact h
    rename_i c1
    rw [if_neg c1]
    cases b with
    | nil => cases h
    | cons n b =>
      simp only at h ⊢
      split at h
      · rename_i c2
        rw [if_pos c2]; exact h
      · rename_i c2
        rw [if_neg c2]
        split at h
        · cases h
        · rename_i l r1 h1
          rw [rdL_mono (fun b x hx => rd_mono hl d d' b x (by omega) hx) n.toNat b _ h1]
          exact h
/-- What valid conditions are encoded to is read. -/
theorem rd_put : ∀ (l : Cl) (d : Nat) (rest : List UInt8), vL l = true → l.nodes ≤ 255 → l.dep ≤ d + 1 → (∀ o m k r, l = .cons o m k r → rd 7 (d + 1) (eC o m k ++ (eL r ++ rest)) = some ((o, m, k), eL r ++ rest)) ∧ rdL (rd 7 (d + 1)) l.len (eL l ++ rest) = some (l, rest)
  | .nil, d, rest, _, _, _ => ⟨fun o m k r h => (by cases h), rfl⟩
  | .cons o m k r, d, rest, hv, hn, hd => by
    have hv0 := hv
    rw [vL_cons, Bool.and_eq_true] at hv
    simp only [Cl.nodes] at hn
    simp only [Cl.dep] at hd
    have hkl := Cl.len_le k
    have one : ∀ x : List UInt8, rd 7 (d + 1) (eC o m k ++ x) = some ((o, m, k), x) := by
      intro x
      have hb : ∀ z : Int, 0 ≤ z → z ≤ 255 → ((byteI z).toNat : Int) = z := fun z h1 h2 => by rw [byteI_toNat]; omega
      have leaf0 : ∀ (z : Int), 0 ≤ z → z < 2 → rd 7 (d + 1) (eC z 0 .nil ++ x) = some ((z, 0, .nil), x) := by
        intro z h1 h2
        unfold eC
        rw [if_neg (by omega), if_neg (by omega)]
        show rd 7 (d + 1) (byteI z :: x) = _
        unfold rd
        rw [hb z h1 (by omega), if_neg (by omega), if_pos h2]
      have leaf1 : ∀ (z : Int), 2 ≤ z → z < 6 → 0 ≤ m → m ≤ 255 → rd 7 (d + 1) (eC z m .nil ++ x) = some ((z, m, .nil), x) := by
        intro z h1 h2 h3 h4
        unfold eC
        rw [if_neg (by omega), if_pos (by omega)]
        show rd 7 (d + 1) (byteI z :: byteI m :: x) = _
        unfold rd
        rw [hb z (by omega) (by omega), if_neg (by omega), if_neg (by omega)]
        simp only
        rw [if_pos h2, hb m h3 h4]
      have inner : ∀ (z : Int), (z = 6 ∨ z = 7) → m = 0 → k ≠ .nil → vL k = true → rd 7 (d + 1) (eC z m k ++ x) = some ((z, m, k), x) := by
        intro z hz hm hk0 hk
        unfold eC
        rw [if_pos (by omega)]
        show rd 7 (d + 1) (byteI z :: byteI (k.len : Int) :: (eL k ++ x)) = _
        unfold rd
        have hl := hb (k.len : Int) (by omega) (by omega)
        rw [hb z (by omega) (by omega), if_neg (by omega), if_neg (by omega)]
        simp only
        rw [if_neg (by omega), show (byteI (k.len : Int)).toNat = k.len by omega]
        cases d with
        | zero =>
          exfalso
          cases k with
          | nil => exact hk0 rfl
          | cons _ _ k' r' => simp only [Cl.dep] at hd; omega
        | succ d =>
          rw [(rd_put k d x hk (by omega) (by omega)).2]
          simp only [hm]
      rcases vC_leaf hv.1 with ⟨rfl, rfl, rfl⟩ | ⟨rfl, rfl, rfl⟩ | ⟨rfl, h1, h2, rfl⟩ | ⟨rfl, h1, h2, rfl⟩ | ⟨rfl, h1, h2, rfl⟩ | ⟨rfl, h1, h2, rfl⟩ | ⟨hz, hm, h2, h3⟩
      · exact leaf0 0 (by omega) (by omega)
      · exact leaf0 1 (by omega) (by omega)
      · exact leaf1 2 (by omega) (by omega) (by omega) (by omega)
      · exact leaf1 3 (by omega) (by omega) (by omega) (by omega)
      · exact leaf1 4 (by omega) (by omega) (by omega) (by omega)
      · have : m ≤ 51 := by
          have e : bitsI BinOp.and IntKind.i64 51 m = IntKind.i64.wrap ((bv 51 &&& bv m).toNat : Int) := rfl
          have h3 : (bv 51 &&& bv m).toNat ≤ 51 := by
            rw [BitVec.toNat_and]
            exact Nat.le_trans Nat.and_le_left (by decide)
          rw [e, w64 (by omega) (by omega)] at h2
          omega
        exact leaf1 5 (by omega) (by omega) (by omega) (by omega)
      · exact inner o hz hm h2 h3
    refine ⟨fun o' m' k' r' e => ?_, ?_⟩
    · injection e with e1 e2 e3 e4
      subst e1; subst e2; subst e3; subst e4
      exact one _
    · have hr := (rd_put r d rest hv.2 (by omega) (by omega)).2
      rw [eL_cons, List.append_assoc]
      show rdL (rd 7 (d + 1)) (r.len + 1) _ = _
      unfold rdL
      rw [one]
      simp only
      rw [hr]
theorem rd_putC {o m : Int} {k : Cl} {d : Nat} (rest : List UInt8) (hv : vC o m k = true) (hn : k.nodes ≤ 254) (hd : k.dep ≤ d) : rd 7 (d + 1) (eC o m k ++ rest) = some ((o, m, k), rest) := by
  have := (rd_put (.cons o m k .nil) d rest hv (by simp only [Cl.nodes]; omega) (by simp only [Cl.dep]; omega)).1 o m k .nil rfl
  simpa [eL] using this
end Go.Proofs.YtahemenhcoedgaaDoor.En
