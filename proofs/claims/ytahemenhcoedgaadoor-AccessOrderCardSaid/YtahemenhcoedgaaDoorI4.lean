/- Several texts in one. -/
import Derived.Test.YtahemenhcoedgaaDoorI3
import Derived.Test.YtahemenhcoedgaaDoorI2
import Derived.ProofKit
import Derived.OpenShut
import Derived.ChangeOld
import Derived.Below
import Derived.Orders
import Derived.Deep.RegionHeld3

set_option linter.unusedSimpArgs false
set_option linter.unusedVariables false
set_option linter.unusedSectionVars false
/- Functions of the program in plain Lean, joined to the program by evaluation; printed by a program. -/
namespace Go.Proofs.YtahemenhcoedgaaDoor.En
open Go Go.Proofs
set_option maxRecDepth 100000
set_option linter.unusedVariables false
noncomputable def e_qhas {R : Type} (s : Int → Int → Option (Bool)) (ds : List D) (K : List D → Option R) : Option R :=
  match ds with
  | [.v (.int .i64 x0) .no, .v (.int .i64 x1) .no] => bnd1 (s x0 x1) fun r0 => K [.v (.bool r0) .no]
  | _ => none
noncomputable def r_qhas (rs : List D) (_ : Mem) : Option (Bool) :=
  match rs with
  | [.v (.bool r0) _] => some (r0)
  | _ => none
noncomputable def s_qhas (N : Nat) (x0 : Int) (x1 : Int) : Option (Bool) :=
  some (decide (bitsI BinOp.and IntKind.i64 x0 x1 = x1))
noncomputable def cx_qhas (N : Nat) : Cx := { T := T, isPure := tabP [], pureK := fun g ds K => tabK [] g ds K, memK := fun g dst ds m K => tabMK [] g dst ds m K, meth := tabM [], keep := fun _ => [], keepX := fun _ => [], loopT := fun _ _ _ _ => none, jumps := 9 }
theorem s_qhas_ok (N : Nat) (x0 : Int) (x1 : Int) : bodyK (cx_qhas N) Tryd.f59 [.v (.int .i64 x0) .no, .v (.int .i64 x1) .no] [] r_qhas = s_qhas N x0 x1 := by
  kernel_rfl
theorem go_qhas : Goes Tryd.prog 59 := goes_of Tryd.func59 (by kernel_rfl) (c := bodyOf Tryd.f59) (by kernel_rfl)
theorem eo_qhas (s : Int → Int → Option (Bool)) (hs : ∀ (x0 : Int) (x1 : Int) (r0 : Bool), s x0 x1 = some r0 → PureRet Tryd.prog T 59 [.v (.int .i64 x0) .no, .v (.int .i64 x1) .no] [.v (.bool r0) .no]) : EntOK Tryd.prog T ⟨59, e_qhas s⟩ := by
  refine ⟨go_qhas, fun R ds K r h => ?_, fun R ds K => ?_⟩
  · simp only [e_qhas] at h
    split at h
    · obtain ⟨r0, h1, h2⟩ := bnd1_some h
      exact ⟨_, h2, hs _ _ _ h1⟩
    · cases h
  · simp only [e_qhas]
    split
    · rw [bnd1_b]; rfl
    · rfl
theorem co_qhas (N : Nat) : CxOK Tryd.prog (cx_qhas N) :=
  cxOK_of2 (es := []) (me := []) (ms := []) T_ok trivial trivial trivial rfl (fun _ _ _ _ => rfl) (fun _ _ _ _ _ _ => rfl) rfl
theorem lo_qhas (N : Nat) : LoopsOK (cx_qhas N) Tryd.f59.ntmps (bodyOf Tryd.f59) :=
  loopsOK_of (k := 0) (by kernel_rfl) trivial
theorem p_qhas (N : Nat) (x0 : Int) (x1 : Int) (r0 : Bool) (h : s_qhas N x0 x1 = some r0) : PureRet Tryd.prog T 59 [.v (.int .i64 x0) .no, .v (.int .i64 x1) .no] [.v (.bool r0) .no] :=
  pure_of (cx := cx_qhas N) (by kernel_rfl) (co_qhas N) Tryd.func59 (by kernel_rfl) (by kernel_rfl) (lo_qhas N) rfl rfl rfl (rf := r_qhas) ((s_qhas_ok N x0 x1).trans h) (fun rs' m h => by
    unfold r_qhas at h
    split at h
    · cases h; exact ⟨rfl, rfl⟩
    · cases h)
noncomputable def e_qvalid {R : Type} (s : Int → Int → List V → Option (Bool)) (ds : List D) (K : List D → Option R) : Option R :=
  match ds with
  | [.agg [.v (.int .i64 x0) .no, .v (.int .i64 x1) .no, .v (.sl 24 x2) .no]] => bnd1 (s x0 x1 x2) fun r0 => K [.v (.bool r0) .no]
  | _ => none
noncomputable def r_qvalid (rs : List D) (_ : Mem) : Option (Bool) :=
  match rs with
  | [.v (.bool r0) _] => some (r0)
  | _ => none
noncomputable def F_qvalid_18 {R : Type} (N : Nat) (f : Int → Int → List V → Option (Bool)) (n1 : Int) (n2 : Int) (vs3 : List V) (Lq : Int → Option R) (K0 : Bool → Option R) (K1 : Option R) (n0 : Int) : Option R :=
  br (decide (n0 < (↑vs3.length : Int)))
  (br (decide (0 ≤ n0) && decide (n0 < (↑vs3.length : Int)))
    (at? vs3 n0.toNat fun x0 =>
      x0.unAgg fun l1 =>
        unCons l1 fun x2 l3 =>
          V.unInt IntKind.i64 x2 fun n4 =>
            unCons l3 fun x5 l6 => V.unInt IntKind.i64 x5 fun n7 => unCons l6 fun x8 l9 => V.unSl 24 x8 fun l10 => unNil l9 (bnd1 (f n4 n7 l10) fun b11 => br (!b11) (K0 false) (Lq (IntKind.i64.wrap (n0 + 1)))))
    none)
  K1
noncomputable def S_qvalid_18 {R : Type} (N : Nat) (f : Int → Int → List V → Option (Bool)) (n1 : Int) (n2 : Int) (vs3 : List V) : Nat → Int → (Bool → Option R) → (Option R) → Option R
  | 0, _, _, _ => none
  | t + 1, n0, K0, K1 => F_qvalid_18 N f n1 n2 vs3 (fun n0 => S_qvalid_18 N f n1 n2 vs3 t n0 K0 K1) K0 K1 n0
noncomputable def l_qvalid_18 {R : Type} (N : Nat) (f : Int → Int → List V → Option (Bool)) (ds : List D) (m : Mem) (K : Ex → List D → Mem → Option R) : Option R :=
  match ds, m with
  | [(.ptr 0 1 0), (.v (.int .i64 n0) .no)], [[(1, ⟨24, [(.v (.int .i64 n1) .no), (.v (.int .i64 n2) .no), (.v (.sl 24 vs3) .no)]⟩)]] => S_qvalid_18 N f n1 n2 vs3 N n0 (fun a0 => K .ret [(.ptr 0 1 0), (.v (.bool a0) .no)] [[(1, ⟨24, [(.v (.int .i64 n1) .no), (.v (.int .i64 n2) .no), (.v (.sl 24 vs3) .no)]⟩)]]) (K (.exit 1) [(.ptr 0 1 0), .any] [[(1, ⟨24, [(.v (.int .i64 n1) .no), (.v (.int .i64 n2) .no), (.v (.sl 24 vs3) .no)]⟩)]])
  | _, _ => none
noncomputable def B_qvalid (N : Nat) (f : Int → Int → List V → Option (Bool)) (x0 : Int) (x1 : Int) (x2 : List V) : Option (Bool) :=
  br (decide (x0 = 0)) (br (decide (x1 = 0)) (some (decide ((↑x2.length : Int) = 0))) (some false))
  (br (decide (x0 = 1)) (br (decide (x1 = 0)) (some (decide ((↑x2.length : Int) = 0))) (some false))
    (br (decide (x0 = 2)) (br (decide (1 ≤ x1)) (br (decide (x1 ≤ 8)) (some (decide ((↑x2.length : Int) = 0))) (some false)) (some false))
      (br (decide (x0 = 3)) (br (decide (1 ≤ x1)) (br (decide (x1 ≤ 8)) (some (decide ((↑x2.length : Int) = 0))) (some false)) (some false))
        (br (decide (x0 = 4)) (br (decide (1 ≤ x1)) (br (decide (x1 ≤ 5)) (some (decide ((↑x2.length : Int) = 0))) (some false)) (some false))
          (br (decide (x0 = 5)) (br (decide (1 ≤ x1)) (bnd1 (s_qhas N 51 x1) fun b0 => br b0 (some (decide ((↑x2.length : Int) = 0))) (some false)) (some false))
            (br (decide (x0 = 6)) (br (!decide (x1 = 0)) (some false) (br (decide ((↑x2.length : Int) = 0)) (some false) (S_qvalid_18 N f x0 x1 x2 N 0 (fun b1 => some b1) (some true))))
              (br (decide (x0 = 7)) (br (!decide (x1 = 0)) (some false) (br (decide ((↑x2.length : Int) = 0)) (some false) (S_qvalid_18 N f x0 x1 x2 N 0 (fun b2 => some b2) (some true)))) (some false))))))))
noncomputable def s_qvalid (N : Nat) : Nat → Int → Int → List V → Option (Bool)
  | 0, _, _, _ => none
  | n + 1, x0, x1, x2 => B_qvalid N (s_qvalid N n) x0 x1 x2
noncomputable def cx_qvalid (N : Nat) (f : Int → Int → List V → Option (Bool)) : Cx := { T := T, isPure := tabP [⟨41, e_qvalid f⟩, ⟨59, e_qhas (s_qhas N)⟩], pureK := fun g ds K => tabK [⟨41, e_qvalid f⟩, ⟨59, e_qhas (s_qhas N)⟩] g ds K, memK := fun g dst ds m K => tabMK [] g dst ds m K, meth := tabM [], keep := fun r => match r with | 18 => [1, 3] | _ => [], keepX := fun r => match r with | 18 => [1, 2] | _ => [], loopT := fun r ds m K => match r with | 18 => l_qvalid_18 N f ds m K | _ => none, jumps := 9 }
theorem F_qvalid_18_ok {R : Type} (N : Nat) (f : Int → Int → List V → Option (Bool)) (n1 : Int) (n2 : Int) (vs3 : List V) (n0 : Int) (L : List D → Mem → Option R) (K : Ex → List D → Mem → Option R) :
    roundK (fun st K => codeK (cx_qvalid N f) (loopN Tryd.f41 0) st K) 108 [1, 3] [1, 2] L [(.ptr 0 1 0), (.v (.int .i64 n0) .no)] [[(1, ⟨24, [(.v (.int .i64 n1) .no), (.v (.int .i64 n2) .no), (.v (.sl 24 vs3) .no)]⟩)]] K = F_qvalid_18 N f n1 n2 vs3 (fun n0 => L [(.ptr 0 1 0), (.v (.int .i64 n0) .no)] [[(1, ⟨24, [(.v (.int .i64 n1) .no), (.v (.int .i64 n2) .no), (.v (.sl 24 vs3) .no)]⟩)]]) (fun a0 => K .ret [(.ptr 0 1 0), (.v (.bool a0) .no)] [[(1, ⟨24, [(.v (.int .i64 n1) .no), (.v (.int .i64 n2) .no), (.v (.sl 24 vs3) .no)]⟩)]]) (K (.exit 1) [(.ptr 0 1 0), .any] [[(1, ⟨24, [(.v (.int .i64 n1) .no), (.v (.int .i64 n2) .no), (.v (.sl 24 vs3) .no)]⟩)]]) n0 := by
  kernel_rfl
theorem S_qvalid_18_ok {R : Type} (N : Nat) (f : Int → Int → List V → Option (Bool)) (n1 : Int) (n2 : Int) (vs3 : List V) (K : Ex → List D → Mem → Option R) : ∀ (t : Nat) (n0 : Int),
    loopK (fun st K => codeK (cx_qvalid N f) (loopN Tryd.f41 0) st K) 108 [1, 3] [1, 2] t [(.ptr 0 1 0), (.v (.int .i64 n0) .no)] [[(1, ⟨24, [(.v (.int .i64 n1) .no), (.v (.int .i64 n2) .no), (.v (.sl 24 vs3) .no)]⟩)]] K = S_qvalid_18 N f n1 n2 vs3 t n0 (fun a0 => K .ret [(.ptr 0 1 0), (.v (.bool a0) .no)] [[(1, ⟨24, [(.v (.int .i64 n1) .no), (.v (.int .i64 n2) .no), (.v (.sl 24 vs3) .no)]⟩)]]) (K (.exit 1) [(.ptr 0 1 0), .any] [[(1, ⟨24, [(.v (.int .i64 n1) .no), (.v (.int .i64 n2) .no), (.v (.sl 24 vs3) .no)]⟩)]])
  | 0, n0 => rfl
  | t + 1, n0 => (F_qvalid_18_ok N f n1 n2 vs3 n0 _ K).trans (congrArg (fun L => F_qvalid_18 N f n1 n2 vs3 L (fun a0 => K .ret [(.ptr 0 1 0), (.v (.bool a0) .no)] [[(1, ⟨24, [(.v (.int .i64 n1) .no), (.v (.int .i64 n2) .no), (.v (.sl 24 vs3) .no)]⟩)]]) (K (.exit 1) [(.ptr 0 1 0), .any] [[(1, ⟨24, [(.v (.int .i64 n1) .no), (.v (.int .i64 n2) .no), (.v (.sl 24 vs3) .no)]⟩)]]) n0) (funext fun n0 => S_qvalid_18_ok N f n1 n2 vs3 K t n0))
theorem B_qvalid_ok (N : Nat) (f : Int → Int → List V → Option (Bool)) (x0 : Int) (x1 : Int) (x2 : List V) : bodyK (cx_qvalid N f) Tryd.f41 [.agg [.v (.int .i64 x0) .no, .v (.int .i64 x1) .no, .v (.sl 24 x2) .no]] [] r_qvalid = B_qvalid N f x0 x1 x2 := by
  kernel_rfl
theorem go_qvalid : Goes Tryd.prog 41 := goes_of Tryd.func41 (by kernel_rfl) (c := bodyOf Tryd.f41) (by kernel_rfl)
theorem eo_qvalid (s : Int → Int → List V → Option (Bool)) (hs : ∀ (x0 : Int) (x1 : Int) (x2 : List V) (r0 : Bool), s x0 x1 x2 = some r0 → PureRet Tryd.prog T 41 [.agg [.v (.int .i64 x0) .no, .v (.int .i64 x1) .no, .v (.sl 24 x2) .no]] [.v (.bool r0) .no]) : EntOK Tryd.prog T ⟨41, e_qvalid s⟩ := by
  refine ⟨go_qvalid, fun R ds K r h => ?_, fun R ds K => ?_⟩
  · simp only [e_qvalid] at h
    split at h
    · obtain ⟨r0, h1, h2⟩ := bnd1_some h
      exact ⟨_, h2, hs _ _ _ _ h1⟩
    · cases h
  · simp only [e_qvalid]
    split
    · rw [bnd1_b]; rfl
    · rfl
theorem co_qvalid (N : Nat) (f : Int → Int → List V → Option (Bool)) (hf : ∀ (x0 : Int) (x1 : Int) (x2 : List V) (r0 : Bool), f x0 x1 x2 = some r0 → PureRet Tryd.prog T 41 [.agg [.v (.int .i64 x0) .no, .v (.int .i64 x1) .no, .v (.sl 24 x2) .no]] [.v (.bool r0) .no]) : CxOK Tryd.prog (cx_qvalid N f) :=
  cxOK_of2 (es := [⟨41, e_qvalid f⟩, ⟨59, e_qhas (s_qhas N)⟩]) (me := []) (ms := []) T_ok ⟨eo_qvalid f hf, eo_qhas _ (p_qhas N), trivial⟩ trivial trivial rfl (fun _ _ _ _ => rfl) (fun _ _ _ _ _ _ => rfl) rfl
theorem lk_qvalid_18 (N : Nat) (f : Int → Int → List V → Option (Bool)) : LoopOK (cx_qvalid N f) 108 (loopN Tryd.f41 0) := by
  refine loopOK_of (rid := 18) (by kernel_rfl) rfl rfl fun R ds m K r h => ?_
  have h : l_qvalid_18 N f ds m K = some r := h
  unfold l_qvalid_18 at h
  split at h
  · exact ⟨N, Eq.trans (S_qvalid_18_ok ..) h⟩
  · cases h
theorem lo_qvalid (N : Nat) (f : Int → Int → List V → Option (Bool)) : LoopsOK (cx_qvalid N f) Tryd.f41.ntmps (bodyOf Tryd.f41) :=
  loopsOK_of (k := 1) (by kernel_rfl) ⟨trivial, lk_qvalid_18 N f⟩
theorem p_qvalid (N : Nat) : ∀ (M : Nat) (x0 : Int) (x1 : Int) (x2 : List V) (r0 : Bool), s_qvalid N M x0 x1 x2 = some r0 → PureRet Tryd.prog T 41 [.agg [.v (.int .i64 x0) .no, .v (.int .i64 x1) .no, .v (.sl 24 x2) .no]] [.v (.bool r0) .no]
  | 0, _, _, _, _, h => by cases h
  | M + 1, x0, x1, x2, r0, h => pure_of (cx := cx_qvalid N (s_qvalid N M)) (by kernel_rfl) (co_qvalid N (s_qvalid N M) (p_qvalid N M)) Tryd.func41 (by kernel_rfl) (by kernel_rfl) (lo_qvalid N (s_qvalid N M)) rfl rfl rfl (rf := r_qvalid) ((B_qvalid_ok N (s_qvalid N M) x0 x1 x2).trans h) (fun rs' m h => by
    unfold r_qvalid at h
    split at h
    · cases h; exact ⟨rfl, rfl⟩
    · cases h)
noncomputable def e_qnodes {R : Type} (s : Int → Int → List V → Option (Int)) (ds : List D) (K : List D → Option R) : Option R :=
  match ds with
  | [.agg [.v (.int .i64 x0) .no, .v (.int .i64 x1) .no, .v (.sl 24 x2) .no]] => bnd1 (s x0 x1 x2) fun r0 => K [.v (.int .i64 r0) .no]
  | _ => none
noncomputable def r_qnodes (rs : List D) (_ : Mem) : Option (Int) :=
  match rs with
  | [.v (.int .i64 r0) _] => some (r0)
  | _ => none
noncomputable def F_qnodes_3 {R : Type} (N : Nat) (f : Int → Int → List V → Option (Int)) (n2 : Int) (n3 : Int) (vs4 : List V) (Lq : Int → Int → Option R) (K0 : Int → Option R) (n0 : Int) (n1 : Int) : Option R :=
  br (decide (n1 < (↑vs4.length : Int)))
  (br (decide (0 ≤ n1) && decide (n1 < (↑vs4.length : Int)))
    (at? vs4 n1.toNat fun x0 =>
      x0.unAgg fun l1 =>
        unCons l1 fun x2 l3 =>
          V.unInt IntKind.i64 x2 fun n4 =>
            unCons l3 fun x5 l6 => V.unInt IntKind.i64 x5 fun n7 => unCons l6 fun x8 l9 => V.unSl 24 x8 fun l10 => unNil l9 (bnd1 (f n4 n7 l10) fun n11 => Lq (IntKind.i64.wrap (n0 + n11)) (IntKind.i64.wrap (n1 + 1))))
    none)
  (K0 n0)
noncomputable def S_qnodes_3 {R : Type} (N : Nat) (f : Int → Int → List V → Option (Int)) (n2 : Int) (n3 : Int) (vs4 : List V) : Nat → Int → Int → (Int → Option R) → Option R
  | 0, _, _, _ => none
  | t + 1, n0, n1, K0 => F_qnodes_3 N f n2 n3 vs4 (fun n0 n1 => S_qnodes_3 N f n2 n3 vs4 t n0 n1 K0) K0 n0 n1
noncomputable def l_qnodes_3 {R : Type} (N : Nat) (f : Int → Int → List V → Option (Int)) (ds : List D) (m : Mem) (K : Ex → List D → Mem → Option R) : Option R :=
  match ds, m with
  | [(.ptr 0 1 0), (.v (.int .i64 n0) .no), (.v (.int .i64 n1) .no)], [[(1, ⟨24, [(.v (.int .i64 n2) .no), (.v (.int .i64 n3) .no), (.v (.sl 24 vs4) .no)]⟩)]] => S_qnodes_3 N f n2 n3 vs4 N n0 n1 (fun a0 => K (.exit 0) [(.ptr 0 1 0), (.v (.int .i64 a0) .no)] [[(1, ⟨24, [(.v (.int .i64 n2) .no), (.v (.int .i64 n3) .no), (.v (.sl 24 vs4) .no)]⟩)]])
  | _, _ => none
noncomputable def B_qnodes (N : Nat) (f : Int → Int → List V → Option (Int)) (x0 : Int) (x1 : Int) (x2 : List V) : Option (Int) :=
  S_qnodes_3 N f x0 x1 x2 N 1 0 fun n0 => some n0
noncomputable def s_qnodes (N : Nat) : Nat → Int → Int → List V → Option (Int)
  | 0, _, _, _ => none
  | n + 1, x0, x1, x2 => B_qnodes N (s_qnodes N n) x0 x1 x2
noncomputable def cx_qnodes (N : Nat) (f : Int → Int → List V → Option (Int)) : Cx := { T := T, isPure := tabP [⟨42, e_qnodes f⟩], pureK := fun g ds K => tabK [⟨42, e_qnodes f⟩] g ds K, memK := fun g dst ds m K => tabMK [] g dst ds m K, meth := tabM [], keep := fun r => match r with | 3 => [1, 3, 4] | _ => [], keepX := fun r => match r with | 3 => [1, 3] | _ => [], loopT := fun r ds m K => match r with | 3 => l_qnodes_3 N f ds m K | _ => none, jumps := 9 }
theorem F_qnodes_3_ok {R : Type} (N : Nat) (f : Int → Int → List V → Option (Int)) (n2 : Int) (n3 : Int) (vs4 : List V) (n0 : Int) (n1 : Int) (L : List D → Mem → Option R) (K : Ex → List D → Mem → Option R) :
    roundK (fun st K => codeK (cx_qnodes N f) (loopN Tryd.f42 0) st K) 21 [1, 3, 4] [1, 3] L [(.ptr 0 1 0), (.v (.int .i64 n0) .no), (.v (.int .i64 n1) .no)] [[(1, ⟨24, [(.v (.int .i64 n2) .no), (.v (.int .i64 n3) .no), (.v (.sl 24 vs4) .no)]⟩)]] K = F_qnodes_3 N f n2 n3 vs4 (fun n0 n1 => L [(.ptr 0 1 0), (.v (.int .i64 n0) .no), (.v (.int .i64 n1) .no)] [[(1, ⟨24, [(.v (.int .i64 n2) .no), (.v (.int .i64 n3) .no), (.v (.sl 24 vs4) .no)]⟩)]]) (fun a0 => K (.exit 0) [(.ptr 0 1 0), (.v (.int .i64 a0) .no)] [[(1, ⟨24, [(.v (.int .i64 n2) .no), (.v (.int .i64 n3) .no), (.v (.sl 24 vs4) .no)]⟩)]]) n0 n1 := by
  kernel_rfl
theorem S_qnodes_3_ok {R : Type} (N : Nat) (f : Int → Int → List V → Option (Int)) (n2 : Int) (n3 : Int) (vs4 : List V) (K : Ex → List D → Mem → Option R) : ∀ (t : Nat) (n0 : Int) (n1 : Int),
    loopK (fun st K => codeK (cx_qnodes N f) (loopN Tryd.f42 0) st K) 21 [1, 3, 4] [1, 3] t [(.ptr 0 1 0), (.v (.int .i64 n0) .no), (.v (.int .i64 n1) .no)] [[(1, ⟨24, [(.v (.int .i64 n2) .no), (.v (.int .i64 n3) .no), (.v (.sl 24 vs4) .no)]⟩)]] K = S_qnodes_3 N f n2 n3 vs4 t n0 n1 (fun a0 => K (.exit 0) [(.ptr 0 1 0), (.v (.int .i64 a0) .no)] [[(1, ⟨24, [(.v (.int .i64 n2) .no), (.v (.int .i64 n3) .no), (.v (.sl 24 vs4) .no)]⟩)]])
  | 0, n0, n1 => rfl
  | t + 1, n0, n1 => (F_qnodes_3_ok N f n2 n3 vs4 n0 n1 _ K).trans (congrArg (fun L => F_qnodes_3 N f n2 n3 vs4 L (fun a0 => K (.exit 0) [(.ptr 0 1 0), (.v (.int .i64 a0) .no)] [[(1, ⟨24, [(.v (.int .i64 n2) .no), (.v (.int .i64 n3) .no), (.v (.sl 24 vs4) .no)]⟩)]]) n0 n1) (funext fun n0 => funext fun n1 => S_qnodes_3_ok N f n2 n3 vs4 K t n0 n1))
theorem B_qnodes_ok (N : Nat) (f : Int → Int → List V → Option (Int)) (x0 : Int) (x1 : Int) (x2 : List V) : bodyK (cx_qnodes N f) Tryd.f42 [.agg [.v (.int .i64 x0) .no, .v (.int .i64 x1) .no, .v (.sl 24 x2) .no]] [] r_qnodes = B_qnodes N f x0 x1 x2 := by
  kernel_rfl
theorem go_qnodes : Goes Tryd.prog 42 := goes_of Tryd.func42 (by kernel_rfl) (c := bodyOf Tryd.f42) (by kernel_rfl)
theorem eo_qnodes (s : Int → Int → List V → Option (Int)) (hs : ∀ (x0 : Int) (x1 : Int) (x2 : List V) (r0 : Int), s x0 x1 x2 = some r0 → PureRet Tryd.prog T 42 [.agg [.v (.int .i64 x0) .no, .v (.int .i64 x1) .no, .v (.sl 24 x2) .no]] [.v (.int .i64 r0) .no]) : EntOK Tryd.prog T ⟨42, e_qnodes s⟩ := by
  refine ⟨go_qnodes, fun R ds K r h => ?_, fun R ds K => ?_⟩
  · simp only [e_qnodes] at h
    split at h
    · obtain ⟨r0, h1, h2⟩ := bnd1_some h
      exact ⟨_, h2, hs _ _ _ _ h1⟩
    · cases h
  · simp only [e_qnodes]
    split
    · rw [bnd1_b]; rfl
    · rfl
theorem co_qnodes (N : Nat) (f : Int → Int → List V → Option (Int)) (hf : ∀ (x0 : Int) (x1 : Int) (x2 : List V) (r0 : Int), f x0 x1 x2 = some r0 → PureRet Tryd.prog T 42 [.agg [.v (.int .i64 x0) .no, .v (.int .i64 x1) .no, .v (.sl 24 x2) .no]] [.v (.int .i64 r0) .no]) : CxOK Tryd.prog (cx_qnodes N f) :=
  cxOK_of2 (es := [⟨42, e_qnodes f⟩]) (me := []) (ms := []) T_ok ⟨eo_qnodes f hf, trivial⟩ trivial trivial rfl (fun _ _ _ _ => rfl) (fun _ _ _ _ _ _ => rfl) rfl
theorem lk_qnodes_3 (N : Nat) (f : Int → Int → List V → Option (Int)) : LoopOK (cx_qnodes N f) 21 (loopN Tryd.f42 0) := by
  refine loopOK_of (rid := 3) (by kernel_rfl) rfl rfl fun R ds m K r h => ?_
  have h : l_qnodes_3 N f ds m K = some r := h
  unfold l_qnodes_3 at h
  split at h
  · exact ⟨N, Eq.trans (S_qnodes_3_ok ..) h⟩
  · cases h
theorem lo_qnodes (N : Nat) (f : Int → Int → List V → Option (Int)) : LoopsOK (cx_qnodes N f) Tryd.f42.ntmps (bodyOf Tryd.f42) :=
  loopsOK_of (k := 1) (by kernel_rfl) ⟨trivial, lk_qnodes_3 N f⟩
theorem p_qnodes (N : Nat) : ∀ (M : Nat) (x0 : Int) (x1 : Int) (x2 : List V) (r0 : Int), s_qnodes N M x0 x1 x2 = some r0 → PureRet Tryd.prog T 42 [.agg [.v (.int .i64 x0) .no, .v (.int .i64 x1) .no, .v (.sl 24 x2) .no]] [.v (.int .i64 r0) .no]
  | 0, _, _, _, _, h => by cases h
  | M + 1, x0, x1, x2, r0, h => pure_of (cx := cx_qnodes N (s_qnodes N M)) (by kernel_rfl) (co_qnodes N (s_qnodes N M) (p_qnodes N M)) Tryd.func42 (by kernel_rfl) (by kernel_rfl) (lo_qnodes N (s_qnodes N M)) rfl rfl rfl (rf := r_qnodes) ((B_qnodes_ok N (s_qnodes N M) x0 x1 x2).trans h) (fun rs' m h => by
    unfold r_qnodes at h
    split at h
    · cases h; exact ⟨rfl, rfl⟩
    · cases h)
noncomputable def e_qdepth {R : Type} (s : Int → Int → List V → Option (Int)) (ds : List D) (K : List D → Option R) : Option R :=
  match ds with
  | [.agg [.v (.int .i64 x0) .no, .v (.int .i64 x1) .no, .v (.sl 24 x2) .no]] => bnd1 (s x0 x1 x2) fun r0 => K [.v (.int .i64 r0) .no]
  | _ => none
noncomputable def r_qdepth (rs : List D) (_ : Mem) : Option (Int) :=
  match rs with
  | [.v (.int .i64 r0) _] => some (r0)
  | _ => none
noncomputable def F_qdepth_3 {R : Type} (N : Nat) (f : Int → Int → List V → Option (Int)) (n2 : Int) (n3 : Int) (vs4 : List V) (Lq : Int → Int → Option R) (K0 : Int → Option R) (n0 : Int) (n1 : Int) : Option R :=
  br (decide (n1 < (↑vs4.length : Int)))
  (br (decide (0 ≤ n1) && decide (n1 < (↑vs4.length : Int)))
    (at? vs4 n1.toNat fun x0 =>
      x0.unAgg fun l1 =>
        unCons l1 fun x2 l3 =>
          V.unInt IntKind.i64 x2 fun n4 =>
            unCons l3 fun x5 l6 =>
              V.unInt IntKind.i64 x5 fun n7 => unCons l6 fun x8 l9 => V.unSl 24 x8 fun l10 => unNil l9 (bnd1 (f n4 n7 l10) fun n11 => br (decide (n0 < n11)) (Lq n11 (IntKind.i64.wrap (n1 + 1))) (Lq n0 (IntKind.i64.wrap (n1 + 1)))))
    none)
  (K0 n0)
noncomputable def S_qdepth_3 {R : Type} (N : Nat) (f : Int → Int → List V → Option (Int)) (n2 : Int) (n3 : Int) (vs4 : List V) : Nat → Int → Int → (Int → Option R) → Option R
  | 0, _, _, _ => none
  | t + 1, n0, n1, K0 => F_qdepth_3 N f n2 n3 vs4 (fun n0 n1 => S_qdepth_3 N f n2 n3 vs4 t n0 n1 K0) K0 n0 n1
noncomputable def l_qdepth_3 {R : Type} (N : Nat) (f : Int → Int → List V → Option (Int)) (ds : List D) (m : Mem) (K : Ex → List D → Mem → Option R) : Option R :=
  match ds, m with
  | [(.ptr 0 1 0), (.v (.int .i64 n0) .no), (.v (.int .i64 n1) .no)], [[(1, ⟨24, [(.v (.int .i64 n2) .no), (.v (.int .i64 n3) .no), (.v (.sl 24 vs4) .no)]⟩)]] => S_qdepth_3 N f n2 n3 vs4 N n0 n1 (fun a0 => K (.exit 0) [(.ptr 0 1 0), (.v (.int .i64 a0) .no)] [[(1, ⟨24, [(.v (.int .i64 n2) .no), (.v (.int .i64 n3) .no), (.v (.sl 24 vs4) .no)]⟩)]])
  | _, _ => none
noncomputable def B_qdepth (N : Nat) (f : Int → Int → List V → Option (Int)) (x0 : Int) (x1 : Int) (x2 : List V) : Option (Int) :=
  S_qdepth_3 N f x0 x1 x2 N 0 0 fun n0 => some (IntKind.i64.wrap (n0 + 1))
noncomputable def s_qdepth (N : Nat) : Nat → Int → Int → List V → Option (Int)
  | 0, _, _, _ => none
  | n + 1, x0, x1, x2 => B_qdepth N (s_qdepth N n) x0 x1 x2
noncomputable def cx_qdepth (N : Nat) (f : Int → Int → List V → Option (Int)) : Cx := { T := T, isPure := tabP [⟨43, e_qdepth f⟩], pureK := fun g ds K => tabK [⟨43, e_qdepth f⟩] g ds K, memK := fun g dst ds m K => tabMK [] g dst ds m K, meth := tabM [], keep := fun r => match r with | 3 => [1, 3, 4] | _ => [], keepX := fun r => match r with | 3 => [1, 3] | _ => [], loopT := fun r ds m K => match r with | 3 => l_qdepth_3 N f ds m K | _ => none, jumps := 9 }
theorem F_qdepth_3_ok {R : Type} (N : Nat) (f : Int → Int → List V → Option (Int)) (n2 : Int) (n3 : Int) (vs4 : List V) (n0 : Int) (n1 : Int) (L : List D → Mem → Option R) (K : Ex → List D → Mem → Option R) :
    roundK (fun st K => codeK (cx_qdepth N f) (loopN Tryd.f43 0) st K) 25 [1, 3, 4] [1, 3] L [(.ptr 0 1 0), (.v (.int .i64 n0) .no), (.v (.int .i64 n1) .no)] [[(1, ⟨24, [(.v (.int .i64 n2) .no), (.v (.int .i64 n3) .no), (.v (.sl 24 vs4) .no)]⟩)]] K = F_qdepth_3 N f n2 n3 vs4 (fun n0 n1 => L [(.ptr 0 1 0), (.v (.int .i64 n0) .no), (.v (.int .i64 n1) .no)] [[(1, ⟨24, [(.v (.int .i64 n2) .no), (.v (.int .i64 n3) .no), (.v (.sl 24 vs4) .no)]⟩)]]) (fun a0 => K (.exit 0) [(.ptr 0 1 0), (.v (.int .i64 a0) .no)] [[(1, ⟨24, [(.v (.int .i64 n2) .no), (.v (.int .i64 n3) .no), (.v (.sl 24 vs4) .no)]⟩)]]) n0 n1 := by
  kernel_rfl
theorem S_qdepth_3_ok {R : Type} (N : Nat) (f : Int → Int → List V → Option (Int)) (n2 : Int) (n3 : Int) (vs4 : List V) (K : Ex → List D → Mem → Option R) : ∀ (t : Nat) (n0 : Int) (n1 : Int),
    loopK (fun st K => codeK (cx_qdepth N f) (loopN Tryd.f43 0) st K) 25 [1, 3, 4] [1, 3] t [(.ptr 0 1 0), (.v (.int .i64 n0) .no), (.v (.int .i64 n1) .no)] [[(1, ⟨24, [(.v (.int .i64 n2) .no), (.v (.int .i64 n3) .no), (.v (.sl 24 vs4) .no)]⟩)]] K = S_qdepth_3 N f n2 n3 vs4 t n0 n1 (fun a0 => K (.exit 0) [(.ptr 0 1 0), (.v (.int .i64 a0) .no)] [[(1, ⟨24, [(.v (.int .i64 n2) .no), (.v (.int .i64 n3) .no), (.v (.sl 24 vs4) .no)]⟩)]])
  | 0, n0, n1 => rfl
  | t + 1, n0, n1 => (F_qdepth_3_ok N f n2 n3 vs4 n0 n1 _ K).trans (congrArg (fun L => F_qdepth_3 N f n2 n3 vs4 L (fun a0 => K (.exit 0) [(.ptr 0 1 0), (.v (.int .i64 a0) .no)] [[(1, ⟨24, [(.v (.int .i64 n2) .no), (.v (.int .i64 n3) .no), (.v (.sl 24 vs4) .no)]⟩)]]) n0 n1) (funext fun n0 => funext fun n1 => S_qdepth_3_ok N f n2 n3 vs4 K t n0 n1))
theorem B_qdepth_ok (N : Nat) (f : Int → Int → List V → Option (Int)) (x0 : Int) (x1 : Int) (x2 : List V) : bodyK (cx_qdepth N f) Tryd.f43 [.agg [.v (.int .i64 x0) .no, .v (.int .i64 x1) .no, .v (.sl 24 x2) .no]] [] r_qdepth = B_qdepth N f x0 x1 x2 := by
  kernel_rfl
theorem go_qdepth : Goes Tryd.prog 43 := goes_of Tryd.func43 (by kernel_rfl) (c := bodyOf Tryd.f43) (by kernel_rfl)
theorem eo_qdepth (s : Int → Int → List V → Option (Int)) (hs : ∀ (x0 : Int) (x1 : Int) (x2 : List V) (r0 : Int), s x0 x1 x2 = some r0 → PureRet Tryd.prog T 43 [.agg [.v (.int .i64 x0) .no, .v (.int .i64 x1) .no, .v (.sl 24 x2) .no]] [.v (.int .i64 r0) .no]) : EntOK Tryd.prog T ⟨43, e_qdepth s⟩ := by
  refine ⟨go_qdepth, fun R ds K r h => ?_, fun R ds K => ?_⟩
  · simp only [e_qdepth] at h
    split at h
    · obtain ⟨r0, h1, h2⟩ := bnd1_some h
      exact ⟨_, h2, hs _ _ _ _ h1⟩
    · cases h
  · simp only [e_qdepth]
    split
    · rw [bnd1_b]; rfl
    · rfl
theorem co_qdepth (N : Nat) (f : Int → Int → List V → Option (Int)) (hf : ∀ (x0 : Int) (x1 : Int) (x2 : List V) (r0 : Int), f x0 x1 x2 = some r0 → PureRet Tryd.prog T 43 [.agg [.v (.int .i64 x0) .no, .v (.int .i64 x1) .no, .v (.sl 24 x2) .no]] [.v (.int .i64 r0) .no]) : CxOK Tryd.prog (cx_qdepth N f) :=
  cxOK_of2 (es := [⟨43, e_qdepth f⟩]) (me := []) (ms := []) T_ok ⟨eo_qdepth f hf, trivial⟩ trivial trivial rfl (fun _ _ _ _ => rfl) (fun _ _ _ _ _ _ => rfl) rfl
theorem lk_qdepth_3 (N : Nat) (f : Int → Int → List V → Option (Int)) : LoopOK (cx_qdepth N f) 25 (loopN Tryd.f43 0) := by
  refine loopOK_of (rid := 3) (by kernel_rfl) rfl rfl fun R ds m K r h => ?_
  have h : l_qdepth_3 N f ds m K = some r := h
  unfold l_qdepth_3 at h
  split at h
  · exact ⟨N, Eq.trans (S_qdepth_3_ok ..) h⟩
  · cases h
theorem lo_qdepth (N : Nat) (f : Int → Int → List V → Option (Int)) : LoopsOK (cx_qdepth N f) Tryd.f43.ntmps (bodyOf Tryd.f43) :=
  loopsOK_of (k := 1) (by kernel_rfl) ⟨trivial, lk_qdepth_3 N f⟩
theorem p_qdepth (N : Nat) : ∀ (M : Nat) (x0 : Int) (x1 : Int) (x2 : List V) (r0 : Int), s_qdepth N M x0 x1 x2 = some r0 → PureRet Tryd.prog T 43 [.agg [.v (.int .i64 x0) .no, .v (.int .i64 x1) .no, .v (.sl 24 x2) .no]] [.v (.int .i64 r0) .no]
  | 0, _, _, _, _, h => by cases h
  | M + 1, x0, x1, x2, r0, h => pure_of (cx := cx_qdepth N (s_qdepth N M)) (by kernel_rfl) (co_qdepth N (s_qdepth N M) (p_qdepth N M)) Tryd.func43 (by kernel_rfl) (by kernel_rfl) (lo_qdepth N (s_qdepth N M)) rfl rfl rfl (rf := r_qdepth) ((B_qdepth_ok N (s_qdepth N M) x0 x1 x2).trans h) (fun rs' m h => by
    unfold r_qdepth at h
    split at h
    · cases h; exact ⟨rfl, rfl⟩
    · cases h)
noncomputable def r_qCheck (rs : List D) (_ : Mem) : Option (Int) :=
  match rs with
  | [.v (.int .i64 r0) _] => some (r0)
  | _ => none
noncomputable def s_qCheck (N : Nat) (x0 : Int) (x1 : Int) (x2 : List V) : Option (Int) :=
  bnd1 (s_qvalid N N x0 x1 x2) fun b0 => br (!b0) (some 1) (bnd1 (s_qnodes N N x0 x1 x2) fun n1 => br (decide (16 < n1)) (some 3) (bnd1 (s_qdepth N N x0 x1 x2) fun n2 => br (decide (8 < n2)) (some 3) (some 0)))
noncomputable def cx_qCheck (N : Nat) : Cx := { T := T, isPure := tabP [⟨41, e_qvalid (s_qvalid N N)⟩, ⟨42, e_qnodes (s_qnodes N N)⟩, ⟨43, e_qdepth (s_qdepth N N)⟩], pureK := fun g ds K => tabK [⟨41, e_qvalid (s_qvalid N N)⟩, ⟨42, e_qnodes (s_qnodes N N)⟩, ⟨43, e_qdepth (s_qdepth N N)⟩] g ds K, memK := fun g dst ds m K => tabMK [] g dst ds m K, meth := tabM [], keep := fun _ => [], keepX := fun _ => [], loopT := fun _ _ _ _ => none, jumps := 9 }
theorem s_qCheck_ok (N : Nat) (x0 : Int) (x1 : Int) (x2 : List V) : bodyK (cx_qCheck N) Tryd.f18 [.agg [.v (.int .i64 x0) .no, .v (.int .i64 x1) .no, .v (.sl 24 x2) .no]] [] r_qCheck = s_qCheck N x0 x1 x2 := by
  kernel_rfl
theorem co_qCheck (N : Nat) : CxOK Tryd.prog (cx_qCheck N) :=
  cxOK_of2 (es := [⟨41, e_qvalid (s_qvalid N N)⟩, ⟨42, e_qnodes (s_qnodes N N)⟩, ⟨43, e_qdepth (s_qdepth N N)⟩]) (me := []) (ms := []) T_ok ⟨eo_qvalid _ (p_qvalid N N), eo_qnodes _ (p_qnodes N N), eo_qdepth _ (p_qdepth N N), trivial⟩ trivial trivial rfl (fun _ _ _ _ => rfl) (fun _ _ _ _ _ _ => rfl) rfl
theorem lo_qCheck (N : Nat) : LoopsOK (cx_qCheck N) Tryd.f18.ntmps (bodyOf Tryd.f18) :=
  loopsOK_of (k := 0) (by kernel_rfl) trivial
theorem p_qCheck (N : Nat) (x0 : Int) (x1 : Int) (x2 : List V) (r0 : Int) (h : s_qCheck N x0 x1 x2 = some r0) : PureRet Tryd.prog T 18 [.agg [.v (.int .i64 x0) .no, .v (.int .i64 x1) .no, .v (.sl 24 x2) .no]] [.v (.int .i64 r0) .no] :=
  pure_of (cx := cx_qCheck N) (by kernel_rfl) (co_qCheck N) Tryd.func18 (by kernel_rfl) (by kernel_rfl) (lo_qCheck N) rfl rfl rfl (rf := r_qCheck) ((s_qCheck_ok N x0 x1 x2).trans h) (fun rs' m h => by
    unfold r_qCheck at h
    split at h
    · cases h; exact ⟨rfl, rfl⟩
    · cases h)
noncomputable def e_qsatisfied {R : Type} (s : Int → Int → List V → Int → Int → Int → Int → Option (Bool)) (ds : List D) (K : List D → Option R) : Option R :=
  match ds with
  | [.agg [.v (.int .i64 x0) .no, .v (.int .i64 x1) .no, .v (.sl 24 x2) .no], .agg [.v (.int .i64 x3) .no, .v (.int .i64 x4) .no, .v (.int .i64 x5) .no, .v (.int .i64 x6) .no]] => bnd1 (s x0 x1 x2 x3 x4 x5 x6) fun r0 => K [.v (.bool r0) .no]
  | _ => none
noncomputable def r_qsatisfied (rs : List D) (_ : Mem) : Option (Bool) :=
  match rs with
  | [.v (.bool r0) _] => some (r0)
  | _ => none
noncomputable def F_qsatisfied_14 {R : Type} (N : Nat) (f : Int → Int → List V → Int → Int → Int → Int → Option (Bool)) (n1 : Int) (n2 : Int) (vs3 : List V) (n4 : Int) (n5 : Int) (n6 : Int) (n7 : Int) (Lq : Int → Option R) (K0 : Bool → Option R) (K1 : Option R) (n0 : Int) : Option R :=
  br (decide (n0 < (↑vs3.length : Int)))
  (br (decide (0 ≤ n0) && decide (n0 < (↑vs3.length : Int)))
    (at? vs3 n0.toNat fun x0 =>
      x0.unAgg fun l1 =>
        unCons l1 fun x2 l3 =>
          V.unInt IntKind.i64 x2 fun n4_1 =>
            unCons l3 fun x5 l6 => V.unInt IntKind.i64 x5 fun n7_1 => unCons l6 fun x8 l9 => V.unSl 24 x8 fun l10 => unNil l9 (bnd1 (f n4_1 n7_1 l10 n4 n5 n6 n7) fun b11 => br (!b11) (K0 false) (Lq (IntKind.i64.wrap (n0 + 1)))))
    none)
  K1
noncomputable def S_qsatisfied_14 {R : Type} (N : Nat) (f : Int → Int → List V → Int → Int → Int → Int → Option (Bool)) (n1 : Int) (n2 : Int) (vs3 : List V) (n4 : Int) (n5 : Int) (n6 : Int) (n7 : Int) : Nat → Int → (Bool → Option R) → (Option R) → Option R
  | 0, _, _, _ => none
  | t + 1, n0, K0, K1 => F_qsatisfied_14 N f n1 n2 vs3 n4 n5 n6 n7 (fun n0 => S_qsatisfied_14 N f n1 n2 vs3 n4 n5 n6 n7 t n0 K0 K1) K0 K1 n0
noncomputable def l_qsatisfied_14 {R : Type} (N : Nat) (f : Int → Int → List V → Int → Int → Int → Int → Option (Bool)) (ds : List D) (m : Mem) (K : Ex → List D → Mem → Option R) : Option R :=
  match ds, m with
  | [(.ptr 0 2 0), (.ptr 0 3 0), (.v (.int .i64 n0) .no)], [[(2, ⟨24, [(.v (.int .i64 n1) .no), (.v (.int .i64 n2) .no), (.v (.sl 24 vs3) .no)]⟩), (3, ⟨31, [(.v (.int .i64 n4) .no), (.v (.int .i64 n5) .no), (.v (.int .i64 n6) .no), (.v (.int .i64 n7) .no)]⟩)]] => S_qsatisfied_14 N f n1 n2 vs3 n4 n5 n6 n7 N n0 (fun a0 => K .ret [(.ptr 0 2 0), (.ptr 0 3 0), (.v (.bool a0) .no)] [[(2, ⟨24, [(.v (.int .i64 n1) .no), (.v (.int .i64 n2) .no), (.v (.sl 24 vs3) .no)]⟩), (3, ⟨31, [(.v (.int .i64 n4) .no), (.v (.int .i64 n5) .no), (.v (.int .i64 n6) .no), (.v (.int .i64 n7) .no)]⟩)]]) (K (.exit 1) [(.ptr 0 2 0), (.ptr 0 3 0), .any] [[(2, ⟨24, [(.v (.int .i64 n1) .no), (.v (.int .i64 n2) .no), (.v (.sl 24 vs3) .no)]⟩), (3, ⟨31, [(.v (.int .i64 n4) .no), (.v (.int .i64 n5) .no), (.v (.int .i64 n6) .no), (.v (.int .i64 n7) .no)]⟩)]])
  | _, _ => none
noncomputable def F_qsatisfied_21 {R : Type} (N : Nat) (f : Int → Int → List V → Int → Int → Int → Int → Option (Bool)) (n1 : Int) (n2 : Int) (vs3 : List V) (n4 : Int) (n5 : Int) (n6 : Int) (n7 : Int) (Lq : Int → Option R) (K0 : Bool → Option R) (K1 : Option R) (n0 : Int) : Option R :=
  br (decide (n0 < (↑vs3.length : Int)))
  (br (decide (0 ≤ n0) && decide (n0 < (↑vs3.length : Int)))
    (at? vs3 n0.toNat fun x0 =>
      x0.unAgg fun l1 =>
        unCons l1 fun x2 l3 =>
          V.unInt IntKind.i64 x2 fun n4_1 =>
            unCons l3 fun x5 l6 => V.unInt IntKind.i64 x5 fun n7_1 => unCons l6 fun x8 l9 => V.unSl 24 x8 fun l10 => unNil l9 (bnd1 (f n4_1 n7_1 l10 n4 n5 n6 n7) fun b11 => br b11 (K0 true) (Lq (IntKind.i64.wrap (n0 + 1)))))
    none)
  K1
noncomputable def S_qsatisfied_21 {R : Type} (N : Nat) (f : Int → Int → List V → Int → Int → Int → Int → Option (Bool)) (n1 : Int) (n2 : Int) (vs3 : List V) (n4 : Int) (n5 : Int) (n6 : Int) (n7 : Int) : Nat → Int → (Bool → Option R) → (Option R) → Option R
  | 0, _, _, _ => none
  | t + 1, n0, K0, K1 => F_qsatisfied_21 N f n1 n2 vs3 n4 n5 n6 n7 (fun n0 => S_qsatisfied_21 N f n1 n2 vs3 n4 n5 n6 n7 t n0 K0 K1) K0 K1 n0
noncomputable def l_qsatisfied_21 {R : Type} (N : Nat) (f : Int → Int → List V → Int → Int → Int → Int → Option (Bool)) (ds : List D) (m : Mem) (K : Ex → List D → Mem → Option R) : Option R :=
  match ds, m with
  | [(.ptr 0 2 0), (.ptr 0 3 0), (.v (.int .i64 n0) .no)], [[(2, ⟨24, [(.v (.int .i64 n1) .no), (.v (.int .i64 n2) .no), (.v (.sl 24 vs3) .no)]⟩), (3, ⟨31, [(.v (.int .i64 n4) .no), (.v (.int .i64 n5) .no), (.v (.int .i64 n6) .no), (.v (.int .i64 n7) .no)]⟩)]] => S_qsatisfied_21 N f n1 n2 vs3 n4 n5 n6 n7 N n0 (fun a0 => K .ret [(.ptr 0 2 0), (.ptr 0 3 0), (.v (.bool a0) .no)] [[(2, ⟨24, [(.v (.int .i64 n1) .no), (.v (.int .i64 n2) .no), (.v (.sl 24 vs3) .no)]⟩), (3, ⟨31, [(.v (.int .i64 n4) .no), (.v (.int .i64 n5) .no), (.v (.int .i64 n6) .no), (.v (.int .i64 n7) .no)]⟩)]]) (K (.exit 3) [(.ptr 0 2 0), (.ptr 0 3 0), .any] [[(2, ⟨24, [(.v (.int .i64 n1) .no), (.v (.int .i64 n2) .no), (.v (.sl 24 vs3) .no)]⟩), (3, ⟨31, [(.v (.int .i64 n4) .no), (.v (.int .i64 n5) .no), (.v (.int .i64 n6) .no), (.v (.int .i64 n7) .no)]⟩)]])
  | _, _ => none
noncomputable def B_qsatisfied (N : Nat) (f : Int → Int → List V → Int → Int → Int → Int → Option (Bool)) (x0 : Int) (x1 : Int) (x2 : List V) (x3 : Int) (x4 : Int) (x5 : Int) (x6 : Int) : Option (Bool) :=
  br (decide (x0 = 1)) (some true)
  (br (decide (x0 = 2)) (br (decide (0 ≤ IntKind.u64.wrap x1)) (bnd1 (s_qhas N x3 (shlI IntKind.i64 1 (IntKind.u64.wrap x1))) fun b0 => some b0) none)
    (br (decide (x0 = 3)) (br (decide (0 ≤ IntKind.u64.wrap x1)) (bnd1 (s_qhas N x4 (shlI IntKind.i64 1 (IntKind.u64.wrap x1))) fun b1 => some b1) none)
      (br (decide (x0 = 4)) (some (decide (x1 ≤ x5)))
        (br (decide (x0 = 5)) (bnd1 (s_qhas N x6 x1) fun b2 => some b2)
          (br (decide (x0 = 6)) (S_qsatisfied_14 N f x0 x1 x2 x3 x4 x5 x6 N 0 (fun b3 => some b3) (some true)) (br (decide (x0 = 7)) (S_qsatisfied_21 N f x0 x1 x2 x3 x4 x5 x6 N 0 (fun b4 => some b4) (some false)) (some false)))))))
noncomputable def s_qsatisfied (N : Nat) : Nat → Int → Int → List V → Int → Int → Int → Int → Option (Bool)
  | 0, _, _, _, _, _, _, _ => none
  | n + 1, x0, x1, x2, x3, x4, x5, x6 => B_qsatisfied N (s_qsatisfied N n) x0 x1 x2 x3 x4 x5 x6
noncomputable def cx_qsatisfied (N : Nat) (f : Int → Int → List V → Int → Int → Int → Int → Option (Bool)) : Cx := { T := T, isPure := tabP [⟨45, e_qsatisfied f⟩, ⟨59, e_qhas (s_qhas N)⟩], pureK := fun g ds K => tabK [⟨45, e_qsatisfied f⟩, ⟨59, e_qhas (s_qhas N)⟩] g ds K, memK := fun g dst ds m K => tabMK [] g dst ds m K, meth := tabM [], keep := fun r => match r with | 14 => [2, 3, 5] | 21 => [2, 3, 6] | _ => [], keepX := fun r => match r with | 14 => [2, 3, 4] | 21 => [2, 3, 4] | _ => [], loopT := fun r ds m K => match r with | 14 => l_qsatisfied_14 N f ds m K | 21 => l_qsatisfied_21 N f ds m K | _ => none, jumps := 9 }
theorem F_qsatisfied_14_ok {R : Type} (N : Nat) (f : Int → Int → List V → Int → Int → Int → Int → Option (Bool)) (n1 : Int) (n2 : Int) (vs3 : List V) (n4 : Int) (n5 : Int) (n6 : Int) (n7 : Int) (n0 : Int) (L : List D → Mem → Option R) (K : Ex → List D → Mem → Option R) :
    roundK (fun st K => codeK (cx_qsatisfied N f) (loopN Tryd.f45 0) st K) 76 [2, 3, 5] [2, 3, 4] L [(.ptr 0 2 0), (.ptr 0 3 0), (.v (.int .i64 n0) .no)] [[(2, ⟨24, [(.v (.int .i64 n1) .no), (.v (.int .i64 n2) .no), (.v (.sl 24 vs3) .no)]⟩), (3, ⟨31, [(.v (.int .i64 n4) .no), (.v (.int .i64 n5) .no), (.v (.int .i64 n6) .no), (.v (.int .i64 n7) .no)]⟩)]] K = F_qsatisfied_14 N f n1 n2 vs3 n4 n5 n6 n7 (fun n0 => L [(.ptr 0 2 0), (.ptr 0 3 0), (.v (.int .i64 n0) .no)] [[(2, ⟨24, [(.v (.int .i64 n1) .no), (.v (.int .i64 n2) .no), (.v (.sl 24 vs3) .no)]⟩), (3, ⟨31, [(.v (.int .i64 n4) .no), (.v (.int .i64 n5) .no), (.v (.int .i64 n6) .no), (.v (.int .i64 n7) .no)]⟩)]]) (fun a0 => K .ret [(.ptr 0 2 0), (.ptr 0 3 0), (.v (.bool a0) .no)] [[(2, ⟨24, [(.v (.int .i64 n1) .no), (.v (.int .i64 n2) .no), (.v (.sl 24 vs3) .no)]⟩), (3, ⟨31, [(.v (.int .i64 n4) .no), (.v (.int .i64 n5) .no), (.v (.int .i64 n6) .no), (.v (.int .i64 n7) .no)]⟩)]]) (K (.exit 1) [(.ptr 0 2 0), (.ptr 0 3 0), .any] [[(2, ⟨24, [(.v (.int .i64 n1) .no), (.v (.int .i64 n2) .no), (.v (.sl 24 vs3) .no)]⟩), (3, ⟨31, [(.v (.int .i64 n4) .no), (.v (.int .i64 n5) .no), (.v (.int .i64 n6) .no), (.v (.int .i64 n7) .no)]⟩)]]) n0 := by
  kernel_rfl
theorem S_qsatisfied_14_ok {R : Type} (N : Nat) (f : Int → Int → List V → Int → Int → Int → Int → Option (Bool)) (n1 : Int) (n2 : Int) (vs3 : List V) (n4 : Int) (n5 : Int) (n6 : Int) (n7 : Int) (K : Ex → List D → Mem → Option R) : ∀ (t : Nat) (n0 : Int),
    loopK (fun st K => codeK (cx_qsatisfied N f) (loopN Tryd.f45 0) st K) 76 [2, 3, 5] [2, 3, 4] t [(.ptr 0 2 0), (.ptr 0 3 0), (.v (.int .i64 n0) .no)] [[(2, ⟨24, [(.v (.int .i64 n1) .no), (.v (.int .i64 n2) .no), (.v (.sl 24 vs3) .no)]⟩), (3, ⟨31, [(.v (.int .i64 n4) .no), (.v (.int .i64 n5) .no), (.v (.int .i64 n6) .no), (.v (.int .i64 n7) .no)]⟩)]] K = S_qsatisfied_14 N f n1 n2 vs3 n4 n5 n6 n7 t n0 (fun a0 => K .ret [(.ptr 0 2 0), (.ptr 0 3 0), (.v (.bool a0) .no)] [[(2, ⟨24, [(.v (.int .i64 n1) .no), (.v (.int .i64 n2) .no), (.v (.sl 24 vs3) .no)]⟩), (3, ⟨31, [(.v (.int .i64 n4) .no), (.v (.int .i64 n5) .no), (.v (.int .i64 n6) .no), (.v (.int .i64 n7) .no)]⟩)]]) (K (.exit 1) [(.ptr 0 2 0), (.ptr 0 3 0), .any] [[(2, ⟨24, [(.v (.int .i64 n1) .no), (.v (.int .i64 n2) .no), (.v (.sl 24 vs3) .no)]⟩), (3, ⟨31, [(.v (.int .i64 n4) .no), (.v (.int .i64 n5) .no), (.v (.int .i64 n6) .no), (.v (.int .i64 n7) .no)]⟩)]])
  | 0, n0 => rfl
  | t + 1, n0 => (F_qsatisfied_14_ok N f n1 n2 vs3 n4 n5 n6 n7 n0 _ K).trans (congrArg (fun L => F_qsatisfied_14 N f n1 n2 vs3 n4 n5 n6 n7 L (fun a0 => K .ret [(.ptr 0 2 0), (.ptr 0 3 0), (.v (.bool a0) .no)] [[(2, ⟨24, [(.v (.int .i64 n1) .no), (.v (.int .i64 n2) .no), (.v (.sl 24 vs3) .no)]⟩), (3, ⟨31, [(.v (.int .i64 n4) .no), (.v (.int .i64 n5) .no), (.v (.int .i64 n6) .no), (.v (.int .i64 n7) .no)]⟩)]]) (K (.exit 1) [(.ptr 0 2 0), (.ptr 0 3 0), .any] [[(2, ⟨24, [(.v (.int .i64 n1) .no), (.v (.int .i64 n2) .no), (.v (.sl 24 vs3) .no)]⟩), (3, ⟨31, [(.v (.int .i64 n4) .no), (.v (.int .i64 n5) .no), (.v (.int .i64 n6) .no), (.v (.int .i64 n7) .no)]⟩)]]) n0) (funext fun n0 => S_qsatisfied_14_ok N f n1 n2 vs3 n4 n5 n6 n7 K t n0))
theorem F_qsatisfied_21_ok {R : Type} (N : Nat) (f : Int → Int → List V → Int → Int → Int → Int → Option (Bool)) (n1 : Int) (n2 : Int) (vs3 : List V) (n4 : Int) (n5 : Int) (n6 : Int) (n7 : Int) (n0 : Int) (L : List D → Mem → Option R) (K : Ex → List D → Mem → Option R) :
    roundK (fun st K => codeK (cx_qsatisfied N f) (loopN Tryd.f45 1) st K) 76 [2, 3, 6] [2, 3, 4] L [(.ptr 0 2 0), (.ptr 0 3 0), (.v (.int .i64 n0) .no)] [[(2, ⟨24, [(.v (.int .i64 n1) .no), (.v (.int .i64 n2) .no), (.v (.sl 24 vs3) .no)]⟩), (3, ⟨31, [(.v (.int .i64 n4) .no), (.v (.int .i64 n5) .no), (.v (.int .i64 n6) .no), (.v (.int .i64 n7) .no)]⟩)]] K = F_qsatisfied_21 N f n1 n2 vs3 n4 n5 n6 n7 (fun n0 => L [(.ptr 0 2 0), (.ptr 0 3 0), (.v (.int .i64 n0) .no)] [[(2, ⟨24, [(.v (.int .i64 n1) .no), (.v (.int .i64 n2) .no), (.v (.sl 24 vs3) .no)]⟩), (3, ⟨31, [(.v (.int .i64 n4) .no), (.v (.int .i64 n5) .no), (.v (.int .i64 n6) .no), (.v (.int .i64 n7) .no)]⟩)]]) (fun a0 => K .ret [(.ptr 0 2 0), (.ptr 0 3 0), (.v (.bool a0) .no)] [[(2, ⟨24, [(.v (.int .i64 n1) .no), (.v (.int .i64 n2) .no), (.v (.sl 24 vs3) .no)]⟩), (3, ⟨31, [(.v (.int .i64 n4) .no), (.v (.int .i64 n5) .no), (.v (.int .i64 n6) .no), (.v (.int .i64 n7) .no)]⟩)]]) (K (.exit 3) [(.ptr 0 2 0), (.ptr 0 3 0), .any] [[(2, ⟨24, [(.v (.int .i64 n1) .no), (.v (.int .i64 n2) .no), (.v (.sl 24 vs3) .no)]⟩), (3, ⟨31, [(.v (.int .i64 n4) .no), (.v (.int .i64 n5) .no), (.v (.int .i64 n6) .no), (.v (.int .i64 n7) .no)]⟩)]]) n0 := by
  kernel_rfl
theorem S_qsatisfied_21_ok {R : Type} (N : Nat) (f : Int → Int → List V → Int → Int → Int → Int → Option (Bool)) (n1 : Int) (n2 : Int) (vs3 : List V) (n4 : Int) (n5 : Int) (n6 : Int) (n7 : Int) (K : Ex → List D → Mem → Option R) : ∀ (t : Nat) (n0 : Int),
    loopK (fun st K => codeK (cx_qsatisfied N f) (loopN Tryd.f45 1) st K) 76 [2, 3, 6] [2, 3, 4] t [(.ptr 0 2 0), (.ptr 0 3 0), (.v (.int .i64 n0) .no)] [[(2, ⟨24, [(.v (.int .i64 n1) .no), (.v (.int .i64 n2) .no), (.v (.sl 24 vs3) .no)]⟩), (3, ⟨31, [(.v (.int .i64 n4) .no), (.v (.int .i64 n5) .no), (.v (.int .i64 n6) .no), (.v (.int .i64 n7) .no)]⟩)]] K = S_qsatisfied_21 N f n1 n2 vs3 n4 n5 n6 n7 t n0 (fun a0 => K .ret [(.ptr 0 2 0), (.ptr 0 3 0), (.v (.bool a0) .no)] [[(2, ⟨24, [(.v (.int .i64 n1) .no), (.v (.int .i64 n2) .no), (.v (.sl 24 vs3) .no)]⟩), (3, ⟨31, [(.v (.int .i64 n4) .no), (.v (.int .i64 n5) .no), (.v (.int .i64 n6) .no), (.v (.int .i64 n7) .no)]⟩)]]) (K (.exit 3) [(.ptr 0 2 0), (.ptr 0 3 0), .any] [[(2, ⟨24, [(.v (.int .i64 n1) .no), (.v (.int .i64 n2) .no), (.v (.sl 24 vs3) .no)]⟩), (3, ⟨31, [(.v (.int .i64 n4) .no), (.v (.int .i64 n5) .no), (.v (.int .i64 n6) .no), (.v (.int .i64 n7) .no)]⟩)]])
  | 0, n0 => rfl
  | t + 1, n0 => (F_qsatisfied_21_ok N f n1 n2 vs3 n4 n5 n6 n7 n0 _ K).trans (congrArg (fun L => F_qsatisfied_21 N f n1 n2 vs3 n4 n5 n6 n7 L (fun a0 => K .ret [(.ptr 0 2 0), (.ptr 0 3 0), (.v (.bool a0) .no)] [[(2, ⟨24, [(.v (.int .i64 n1) .no), (.v (.int .i64 n2) .no), (.v (.sl 24 vs3) .no)]⟩), (3, ⟨31, [(.v (.int .i64 n4) .no), (.v (.int .i64 n5) .no), (.v (.int .i64 n6) .no), (.v (.int .i64 n7) .no)]⟩)]]) (K (.exit 3) [(.ptr 0 2 0), (.ptr 0 3 0), .any] [[(2, ⟨24, [(.v (.int .i64 n1) .no), (.v (.int .i64 n2) .no), (.v (.sl 24 vs3) .no)]⟩), (3, ⟨31, [(.v (.int .i64 n4) .no), (.v (.int .i64 n5) .no), (.v (.int .i64 n6) .no), (.v (.int .i64 n7) .no)]⟩)]]) n0) (funext fun n0 => S_qsatisfied_21_ok N f n1 n2 vs3 n4 n5 n6 n7 K t n0))
theorem B_qsatisfied_ok (N : Nat) (f : Int → Int → List V → Int → Int → Int → Int → Option (Bool)) (x0 : Int) (x1 : Int) (x2 : List V) (x3 : Int) (x4 : Int) (x5 : Int) (x6 : Int) : bodyK (cx_qsatisfied N f) Tryd.f45 [.agg [.v (.int .i64 x0) .no, .v (.int .i64 x1) .no, .v (.sl 24 x2) .no], .agg [.v (.int .i64 x3) .no, .v (.int .i64 x4) .no, .v (.int .i64 x5) .no, .v (.int .i64 x6) .no]] [] r_qsatisfied = B_qsatisfied N f x0 x1 x2 x3 x4 x5 x6 := by
  kernel_rfl
theorem go_qsatisfied : Goes Tryd.prog 45 := goes_of Tryd.func45 (by kernel_rfl) (c := bodyOf Tryd.f45) (by kernel_rfl)
theorem eo_qsatisfied (s : Int → Int → List V → Int → Int → Int → Int → Option (Bool)) (hs : ∀ (x0 : Int) (x1 : Int) (x2 : List V) (x3 : Int) (x4 : Int) (x5 : Int) (x6 : Int) (r0 : Bool), s x0 x1 x2 x3 x4 x5 x6 = some r0 → PureRet Tryd.prog T 45 [.agg [.v (.int .i64 x0) .no, .v (.int .i64 x1) .no, .v (.sl 24 x2) .no], .agg [.v (.int .i64 x3) .no, .v (.int .i64 x4) .no, .v (.int .i64 x5) .no, .v (.int .i64 x6) .no]] [.v (.bool r0) .no]) : EntOK Tryd.prog T ⟨45, e_qsatisfied s⟩ := by
  refine ⟨go_qsatisfied, fun R ds K r h => ?_, fun R ds K => ?_⟩
  · simp only [e_qsatisfied] at h
    split at h
    · obtain ⟨r0, h1, h2⟩ := bnd1_some h
      exact ⟨_, h2, hs _ _ _ _ _ _ _ _ h1⟩
    · cases h
  · simp only [e_qsatisfied]
    split
    · rw [bnd1_b]; rfl
    · rfl
theorem co_qsatisfied (N : Nat) (f : Int → Int → List V → Int → Int → Int → Int → Option (Bool)) (hf : ∀ (x0 : Int) (x1 : Int) (x2 : List V) (x3 : Int) (x4 : Int) (x5 : Int) (x6 : Int) (r0 : Bool), f x0 x1 x2 x3 x4 x5 x6 = some r0 → PureRet Tryd.prog T 45 [.agg [.v (.int .i64 x0) .no, .v (.int .i64 x1) .no, .v (.sl 24 x2) .no], .agg [.v (.int .i64 x3) .no, .v (.int .i64 x4) .no, .v (.int .i64 x5) .no, .v (.int .i64 x6) .no]] [.v (.bool r0) .no]) : CxOK Tryd.prog (cx_qsatisfied N f) :=
  cxOK_of2 (es := [⟨45, e_qsatisfied f⟩, ⟨59, e_qhas (s_qhas N)⟩]) (me := []) (ms := []) T_ok ⟨eo_qsatisfied f hf, eo_qhas _ (p_qhas N), trivial⟩ trivial trivial rfl (fun _ _ _ _ => rfl) (fun _ _ _ _ _ _ => rfl) rfl
theorem lk_qsatisfied_14 (N : Nat) (f : Int → Int → List V → Int → Int → Int → Int → Option (Bool)) : LoopOK (cx_qsatisfied N f) 76 (loopN Tryd.f45 0) := by
  refine loopOK_of (rid := 14) (by kernel_rfl) rfl rfl fun R ds m K r h => ?_
  have h : l_qsatisfied_14 N f ds m K = some r := h
  unfold l_qsatisfied_14 at h
  split at h
  · exact ⟨N, Eq.trans (S_qsatisfied_14_ok ..) h⟩
  · cases h
theorem lk_qsatisfied_21 (N : Nat) (f : Int → Int → List V → Int → Int → Int → Int → Option (Bool)) : LoopOK (cx_qsatisfied N f) 76 (loopN Tryd.f45 1) := by
  refine loopOK_of (rid := 21) (by kernel_rfl) rfl rfl fun R ds m K r h => ?_
  have h : l_qsatisfied_21 N f ds m K = some r := h
  unfold l_qsatisfied_21 at h
  split at h
  · exact ⟨N, Eq.trans (S_qsatisfied_21_ok ..) h⟩
  · cases h
theorem lo_qsatisfied (N : Nat) (f : Int → Int → List V → Int → Int → Int → Int → Option (Bool)) : LoopsOK (cx_qsatisfied N f) Tryd.f45.ntmps (bodyOf Tryd.f45) :=
  loopsOK_of (k := 2) (by kernel_rfl) ⟨⟨trivial, lk_qsatisfied_14 N f⟩, lk_qsatisfied_21 N f⟩
theorem p_qsatisfied (N : Nat) : ∀ (M : Nat) (x0 : Int) (x1 : Int) (x2 : List V) (x3 : Int) (x4 : Int) (x5 : Int) (x6 : Int) (r0 : Bool), s_qsatisfied N M x0 x1 x2 x3 x4 x5 x6 = some r0 → PureRet Tryd.prog T 45 [.agg [.v (.int .i64 x0) .no, .v (.int .i64 x1) .no, .v (.sl 24 x2) .no], .agg [.v (.int .i64 x3) .no, .v (.int .i64 x4) .no, .v (.int .i64 x5) .no, .v (.int .i64 x6) .no]] [.v (.bool r0) .no]
  | 0, _, _, _, _, _, _, _, _, h => by cases h
  | M + 1, x0, x1, x2, x3, x4, x5, x6, r0, h => pure_of (cx := cx_qsatisfied N (s_qsatisfied N M)) (by kernel_rfl) (co_qsatisfied N (s_qsatisfied N M) (p_qsatisfied N M)) Tryd.func45 (by kernel_rfl) (by kernel_rfl) (lo_qsatisfied N (s_qsatisfied N M)) rfl rfl rfl (rf := r_qsatisfied) ((B_qsatisfied_ok N (s_qsatisfied N M) x0 x1 x2 x3 x4 x5 x6).trans h) (fun rs' m h => by
    unfold r_qsatisfied at h
    split at h
    · cases h; exact ⟨rfl, rfl⟩
    · cases h)
noncomputable def e_qwith {R : Type} (s : Int → Int → Int → Int → Int → Int → List V → Option (Int × Int × Int × Int)) (ds : List D) (K : List D → Option R) : Option R :=
  match ds with
  | [.agg [.v (.int .i64 x0) .no, .v (.int .i64 x1) .no, .v (.int .i64 x2) .no, .v (.int .i64 x3) .no], .agg [.v (.int .i64 x4) .no, .v (.int .i64 x5) .no, .v (.sl 24 x6) .no]] => bnd4 (s x0 x1 x2 x3 x4 x5 x6) fun r0 r1 r2 r3 => K [.agg [.v (.int .i64 r0) .no, .v (.int .i64 r1) .no, .v (.int .i64 r2) .no, .v (.int .i64 r3) .no]]
  | _ => none
noncomputable def r_qwith (rs : List D) (_ : Mem) : Option (Int × Int × Int × Int) :=
  match rs with
  | [.agg [.v (.int .i64 r0) _, .v (.int .i64 r1) _, .v (.int .i64 r2) _, .v (.int .i64 r3) _]] => some (r0, r1, r2, r3)
  | _ => none
noncomputable def s_qwith (N : Nat) (x0 : Int) (x1 : Int) (x2 : Int) (x3 : Int) (x4 : Int) (x5 : Int) (x6 : List V) : Option (Int × Int × Int × Int) :=
  br (decide (x4 = 2)) (br (decide (0 ≤ IntKind.u64.wrap x5)) (some (IntKind.i64.wrap (x0 + shlI IntKind.i64 1 (IntKind.u64.wrap x5)), x1, x2, x3)) none)
  (br (decide (x4 = 3)) (br (decide (0 ≤ IntKind.u64.wrap x5)) (some (x0, IntKind.i64.wrap (x1 + shlI IntKind.i64 1 (IntKind.u64.wrap x5)), x2, x3)) none)
    (br (decide (x4 = 4)) (br (decide (x2 < x5)) (some (x0, x1, x5, x3)) (some (x0, x1, x2, x3))) (br (decide (x4 = 5)) (some (x0, x1, x2, IntKind.i64.wrap (x3 + x5))) (some (x0, x1, x2, x3)))))
noncomputable def cx_qwith (N : Nat) : Cx := { T := T, isPure := tabP [], pureK := fun g ds K => tabK [] g ds K, memK := fun g dst ds m K => tabMK [] g dst ds m K, meth := tabM [], keep := fun _ => [], keepX := fun _ => [], loopT := fun _ _ _ _ => none, jumps := 9 }
theorem s_qwith_ok (N : Nat) (x0 : Int) (x1 : Int) (x2 : Int) (x3 : Int) (x4 : Int) (x5 : Int) (x6 : List V) : bodyK (cx_qwith N) Tryd.f76 [.agg [.v (.int .i64 x0) .no, .v (.int .i64 x1) .no, .v (.int .i64 x2) .no, .v (.int .i64 x3) .no], .agg [.v (.int .i64 x4) .no, .v (.int .i64 x5) .no, .v (.sl 24 x6) .no]] [] r_qwith = s_qwith N x0 x1 x2 x3 x4 x5 x6 := by
  kernel_rfl
theorem go_qwith : Goes Tryd.prog 76 := goes_of Tryd.func76 (by kernel_rfl) (c := bodyOf Tryd.f76) (by kernel_rfl)
theorem eo_qwith (s : Int → Int → Int → Int → Int → Int → List V → Option (Int × Int × Int × Int)) (hs : ∀ (x0 : Int) (x1 : Int) (x2 : Int) (x3 : Int) (x4 : Int) (x5 : Int) (x6 : List V) (r0 : Int) (r1 : Int) (r2 : Int) (r3 : Int), s x0 x1 x2 x3 x4 x5 x6 = some (r0, r1, r2, r3) → PureRet Tryd.prog T 76 [.agg [.v (.int .i64 x0) .no, .v (.int .i64 x1) .no, .v (.int .i64 x2) .no, .v (.int .i64 x3) .no], .agg [.v (.int .i64 x4) .no, .v (.int .i64 x5) .no, .v (.sl 24 x6) .no]] [.agg [.v (.int .i64 r0) .no, .v (.int .i64 r1) .no, .v (.int .i64 r2) .no, .v (.int .i64 r3) .no]]) : EntOK Tryd.prog T ⟨76, e_qwith s⟩ := by
  refine ⟨go_qwith, fun R ds K r h => ?_, fun R ds K => ?_⟩
  · simp only [e_qwith] at h
    split at h
    · obtain ⟨r0, r1, r2, r3, h1, h2⟩ := bnd4_some h
      exact ⟨_, h2, hs _ _ _ _ _ _ _ _ _ _ _ h1⟩
    · cases h
  · simp only [e_qwith]
    split
    · rw [bnd4_b]; rfl
    · rfl
theorem co_qwith (N : Nat) : CxOK Tryd.prog (cx_qwith N) :=
  cxOK_of2 (es := []) (me := []) (ms := []) T_ok trivial trivial trivial rfl (fun _ _ _ _ => rfl) (fun _ _ _ _ _ _ => rfl) rfl
theorem lo_qwith (N : Nat) : LoopsOK (cx_qwith N) Tryd.f76.ntmps (bodyOf Tryd.f76) :=
  loopsOK_of (k := 0) (by kernel_rfl) trivial
theorem p_qwith (N : Nat) (x0 : Int) (x1 : Int) (x2 : Int) (x3 : Int) (x4 : Int) (x5 : Int) (x6 : List V) (r0 : Int) (r1 : Int) (r2 : Int) (r3 : Int) (h : s_qwith N x0 x1 x2 x3 x4 x5 x6 = some (r0, r1, r2, r3)) : PureRet Tryd.prog T 76 [.agg [.v (.int .i64 x0) .no, .v (.int .i64 x1) .no, .v (.int .i64 x2) .no, .v (.int .i64 x3) .no], .agg [.v (.int .i64 x4) .no, .v (.int .i64 x5) .no, .v (.sl 24 x6) .no]] [.agg [.v (.int .i64 r0) .no, .v (.int .i64 r1) .no, .v (.int .i64 r2) .no, .v (.int .i64 r3) .no]] :=
  pure_of (cx := cx_qwith N) (by kernel_rfl) (co_qwith N) Tryd.func76 (by kernel_rfl) (by kernel_rfl) (lo_qwith N) rfl rfl rfl (rf := r_qwith) ((s_qwith_ok N x0 x1 x2 x3 x4 x5 x6).trans h) (fun rs' m h => by
    unfold r_qwith at h
    split at h
    · cases h; exact ⟨rfl, rfl⟩
    · cases h)
noncomputable def e_qimplied {R : Type} (s : Int → Int → List V → Int → Int → List V → List V → Int → Int → Int → Int → Option (Bool)) (ds : List D) (K : List D → Option R) : Option R :=
  match ds with
  | [.agg [.v (.int .i64 x0) .no, .v (.int .i64 x1) .no, .v (.sl 24 x2) .no], .agg [.v (.int .i64 x3) .no, .v (.int .i64 x4) .no, .v (.sl 24 x5) .no], .v (.sl 24 x6) .no, .agg [.v (.int .i64 x7) .no, .v (.int .i64 x8) .no, .v (.int .i64 x9) .no, .v (.int .i64 x10) .no]] => bnd1 (s x0 x1 x2 x3 x4 x5 x6 x7 x8 x9 x10) fun r0 => K [.v (.bool r0) .no]
  | _ => none
noncomputable def r_qimplied (rs : List D) (_ : Mem) : Option (Bool) :=
  match rs with
  | [.v (.bool r0) _] => some (r0)
  | _ => none
noncomputable def B_qimplied (N : Nat) (f : Int → Int → List V → Int → Int → List V → List V → Int → Int → Int → Int → Option (Bool)) (x0 : Int) (x1 : Int) (x2 : List V) (x3 : Int) (x4 : Int) (x5 : List V) (x6 : List V) (x7 : Int) (x8 : Int) (x9 : Int) (x10 : Int) : Option (Bool) :=
  br (decide ((↑x6.length : Int) = 0)) (bnd1 (s_qsatisfied N N x0 x1 x2 x7 x8 x9 x10) fun b0 => br (!b0) (some true) (bnd1 (s_qsatisfied N N x3 x4 x5 x7 x8 x9 x10) fun b1 => some b1))
  (br (decide (1 ≤ (↑x6.length : Int)))
    (bnd1 (f x0 x1 x2 x3 x4 x5 (List.drop (Int.toNat 1) x6) x7 x8 x9 x10) fun b2 =>
      br b2
        (br (decide (1 ≤ (↑x6.length : Int)))
          (br (decide (0 < (↑x6.length : Int)))
            (at? x6 0 fun x3_1 =>
              x3_1.unAgg fun l4 =>
                unCons l4 fun x5_1 l6 =>
                  V.unInt IntKind.i64 x5_1 fun n7 =>
                    unCons l6 fun x8_1 l9 =>
                      V.unInt IntKind.i64 x8_1 fun n10 =>
                        unCons l9 fun x11 l12 =>
                          V.unSl 24 x11 fun l13 => unNil l12 (bnd4 (s_qwith N x7 x8 x9 x10 n7 n10 l13) fun n14 n15 n16 n17 => bnd1 (f x0 x1 x2 x3 x4 x5 (List.drop (Int.toNat 1) x6) n14 n15 n16 n17) fun b18 => some b18))
            none)
          none)
        (some false))
    none)
noncomputable def s_qimplied (N : Nat) : Nat → Int → Int → List V → Int → Int → List V → List V → Int → Int → Int → Int → Option (Bool)
  | 0, _, _, _, _, _, _, _, _, _, _, _ => none
  | n + 1, x0, x1, x2, x3, x4, x5, x6, x7, x8, x9, x10 => B_qimplied N (s_qimplied N n) x0 x1 x2 x3 x4 x5 x6 x7 x8 x9 x10
noncomputable def cx_qimplied (N : Nat) (f : Int → Int → List V → Int → Int → List V → List V → Int → Int → Int → Int → Option (Bool)) : Cx := { T := T, isPure := tabP [⟨50, e_qimplied f⟩, ⟨45, e_qsatisfied (s_qsatisfied N N)⟩, ⟨76, e_qwith (s_qwith N)⟩], pureK := fun g ds K => tabK [⟨50, e_qimplied f⟩, ⟨45, e_qsatisfied (s_qsatisfied N N)⟩, ⟨76, e_qwith (s_qwith N)⟩] g ds K, memK := fun g dst ds m K => tabMK [] g dst ds m K, meth := tabM [], keep := fun _ => [], keepX := fun _ => [], loopT := fun _ _ _ _ => none, jumps := 9 }
theorem B_qimplied_ok (N : Nat) (f : Int → Int → List V → Int → Int → List V → List V → Int → Int → Int → Int → Option (Bool)) (x0 : Int) (x1 : Int) (x2 : List V) (x3 : Int) (x4 : Int) (x5 : List V) (x6 : List V) (x7 : Int) (x8 : Int) (x9 : Int) (x10 : Int) : bodyK (cx_qimplied N f) Tryd.f50 [.agg [.v (.int .i64 x0) .no, .v (.int .i64 x1) .no, .v (.sl 24 x2) .no], .agg [.v (.int .i64 x3) .no, .v (.int .i64 x4) .no, .v (.sl 24 x5) .no], .v (.sl 24 x6) .no, .agg [.v (.int .i64 x7) .no, .v (.int .i64 x8) .no, .v (.int .i64 x9) .no, .v (.int .i64 x10) .no]] [] r_qimplied = B_qimplied N f x0 x1 x2 x3 x4 x5 x6 x7 x8 x9 x10 := by
  kernel_rfl
theorem go_qimplied : Goes Tryd.prog 50 := goes_of Tryd.func50 (by kernel_rfl) (c := bodyOf Tryd.f50) (by kernel_rfl)
theorem eo_qimplied (s : Int → Int → List V → Int → Int → List V → List V → Int → Int → Int → Int → Option (Bool)) (hs : ∀ (x0 : Int) (x1 : Int) (x2 : List V) (x3 : Int) (x4 : Int) (x5 : List V) (x6 : List V) (x7 : Int) (x8 : Int) (x9 : Int) (x10 : Int) (r0 : Bool), s x0 x1 x2 x3 x4 x5 x6 x7 x8 x9 x10 = some r0 → PureRet Tryd.prog T 50 [.agg [.v (.int .i64 x0) .no, .v (.int .i64 x1) .no, .v (.sl 24 x2) .no], .agg [.v (.int .i64 x3) .no, .v (.int .i64 x4) .no, .v (.sl 24 x5) .no], .v (.sl 24 x6) .no, .agg [.v (.int .i64 x7) .no, .v (.int .i64 x8) .no, .v (.int .i64 x9) .no, .v (.int .i64 x10) .no]] [.v (.bool r0) .no]) : EntOK Tryd.prog T ⟨50, e_qimplied s⟩ := by
  refine ⟨go_qimplied, fun R ds K r h => ?_, fun R ds K => ?_⟩
  · simp only [e_qimplied] at h
    split at h
    · obtain ⟨r0, h1, h2⟩ := bnd1_some h
      exact ⟨_, h2, hs _ _ _ _ _ _ _ _ _ _ _ _ h1⟩
    · cases h
  · simp only [e_qimplied]
    split
    · rw [bnd1_b]; rfl
    · rfl
theorem co_qimplied (N : Nat) (f : Int → Int → List V → Int → Int → List V → List V → Int → Int → Int → Int → Option (Bool)) (hf : ∀ (x0 : Int) (x1 : Int) (x2 : List V) (x3 : Int) (x4 : Int) (x5 : List V) (x6 : List V) (x7 : Int) (x8 : Int) (x9 : Int) (x10 : Int) (r0 : Bool), f x0 x1 x2 x3 x4 x5 x6 x7 x8 x9 x10 = some r0 → PureRet Tryd.prog T 50 [.agg [.v (.int .i64 x0) .no, .v (.int .i64 x1) .no, .v (.sl 24 x2) .no], .agg [.v (.int .i64 x3) .no, .v (.int .i64 x4) .no, .v (.sl 24 x5) .no], .v (.sl 24 x6) .no, .agg [.v (.int .i64 x7) .no, .v (.int .i64 x8) .no, .v (.int .i64 x9) .no, .v (.int .i64 x10) .no]] [.v (.bool r0) .no]) : CxOK Tryd.prog (cx_qimplied N f) :=
  cxOK_of2 (es := [⟨50, e_qimplied f⟩, ⟨45, e_qsatisfied (s_qsatisfied N N)⟩, ⟨76, e_qwith (s_qwith N)⟩]) (me := []) (ms := []) T_ok ⟨eo_qimplied f hf, eo_qsatisfied _ (p_qsatisfied N N), eo_qwith _ (p_qwith N), trivial⟩ trivial trivial rfl (fun _ _ _ _ => rfl) (fun _ _ _ _ _ _ => rfl) rfl
theorem lo_qimplied (N : Nat) (f : Int → Int → List V → Int → Int → List V → List V → Int → Int → Int → Int → Option (Bool)) : LoopsOK (cx_qimplied N f) Tryd.f50.ntmps (bodyOf Tryd.f50) :=
  loopsOK_of (k := 0) (by kernel_rfl) trivial
theorem p_qimplied (N : Nat) : ∀ (M : Nat) (x0 : Int) (x1 : Int) (x2 : List V) (x3 : Int) (x4 : Int) (x5 : List V) (x6 : List V) (x7 : Int) (x8 : Int) (x9 : Int) (x10 : Int) (r0 : Bool), s_qimplied N M x0 x1 x2 x3 x4 x5 x6 x7 x8 x9 x10 = some r0 → PureRet Tryd.prog T 50 [.agg [.v (.int .i64 x0) .no, .v (.int .i64 x1) .no, .v (.sl 24 x2) .no], .agg [.v (.int .i64 x3) .no, .v (.int .i64 x4) .no, .v (.sl 24 x5) .no], .v (.sl 24 x6) .no, .agg [.v (.int .i64 x7) .no, .v (.int .i64 x8) .no, .v (.int .i64 x9) .no, .v (.int .i64 x10) .no]] [.v (.bool r0) .no]
  | 0, _, _, _, _, _, _, _, _, _, _, _, _, h => by cases h
  | M + 1, x0, x1, x2, x3, x4, x5, x6, x7, x8, x9, x10, r0, h => pure_of (cx := cx_qimplied N (s_qimplied N M)) (by kernel_rfl) (co_qimplied N (s_qimplied N M) (p_qimplied N M)) Tryd.func50 (by kernel_rfl) (by kernel_rfl) (lo_qimplied N (s_qimplied N M)) rfl rfl rfl (rf := r_qimplied) ((B_qimplied_ok N (s_qimplied N M) x0 x1 x2 x3 x4 x5 x6 x7 x8 x9 x10).trans h) (fun rs' m h => by
    unfold r_qimplied at h
    split at h
    · cases h; exact ⟨rfl, rfl⟩
    · cases h)
noncomputable def e_lleft {R : Type} (s : Int → Int → List V → Int → Option (Int)) (ds : List D) (K : List D → Option R) : Option R :=
  match ds with
  | [.agg [.v (.int .i64 x0) .no, .v (.int .i64 x1) .no, .v (.sl 24 x2) .no], .v (.int .i64 x3) .no] => bnd1 (s x0 x1 x2 x3) fun r0 => K [.v (.int .i64 r0) .no]
  | _ => none
noncomputable def r_lleft (rs : List D) (_ : Mem) : Option (Int) :=
  match rs with
  | [.v (.int .i64 r0) _] => some (r0)
  | _ => none
noncomputable def F_lleft_3 {R : Type} (N : Nat) (f : Int → Int → List V → Int → Option (Int)) (n2 : Int) (n3 : Int) (vs4 : List V) (Lq : Int → Int → Option R) (K0 : Int → Option R) (n0 : Int) (n1 : Int) : Option R :=
  br (decide (n1 < (↑vs4.length : Int)))
  (br (decide (0 ≤ n0))
    (br (decide (0 ≤ n1) && decide (n1 < (↑vs4.length : Int)))
      (at? vs4 n1.toNat fun x0 =>
        x0.unAgg fun l1 =>
          unCons l1 fun x2 l3 =>
            V.unInt IntKind.i64 x2 fun n4 => unCons l3 fun x5 l6 => V.unInt IntKind.i64 x5 fun n7 => unCons l6 fun x8 l9 => V.unSl 24 x8 fun l10 => unNil l9 (bnd1 (f n4 n7 l10 n0) fun n11 => Lq n11 (IntKind.i64.wrap (n1 + 1))))
      none)
    (K0 n0))
  (K0 n0)
noncomputable def S_lleft_3 {R : Type} (N : Nat) (f : Int → Int → List V → Int → Option (Int)) (n2 : Int) (n3 : Int) (vs4 : List V) : Nat → Int → Int → (Int → Option R) → Option R
  | 0, _, _, _ => none
  | t + 1, n0, n1, K0 => F_lleft_3 N f n2 n3 vs4 (fun n0 n1 => S_lleft_3 N f n2 n3 vs4 t n0 n1 K0) K0 n0 n1
noncomputable def l_lleft_3 {R : Type} (N : Nat) (f : Int → Int → List V → Int → Option (Int)) (ds : List D) (m : Mem) (K : Ex → List D → Mem → Option R) : Option R :=
  match ds, m with
  | [(.v (.int .i64 n0) .no), (.ptr 0 2 0), (.v (.int .i64 n1) .no)], [[(2, ⟨24, [(.v (.int .i64 n2) .no), (.v (.int .i64 n3) .no), (.v (.sl 24 vs4) .no)]⟩)]] => S_lleft_3 N f n2 n3 vs4 N n0 n1 (fun a0 => K (.exit 0) [(.v (.int .i64 a0) .no), (.ptr 0 2 0)] [[(2, ⟨24, [(.v (.int .i64 n2) .no), (.v (.int .i64 n3) .no), (.v (.sl 24 vs4) .no)]⟩)]])
  | _, _ => none
noncomputable def B_lleft (N : Nat) (f : Int → Int → List V → Int → Option (Int)) (x0 : Int) (x1 : Int) (x2 : List V) (x3 : Int) : Option (Int) :=
  S_lleft_3 N f x0 x1 x2 N (IntKind.i64.wrap (x3 - 1)) 0 fun n0 => some n0
noncomputable def s_lleft (N : Nat) : Nat → Int → Int → List V → Int → Option (Int)
  | 0, _, _, _, _ => none
  | n + 1, x0, x1, x2, x3 => B_lleft N (s_lleft N n) x0 x1 x2 x3
noncomputable def cx_lleft (N : Nat) (f : Int → Int → List V → Int → Option (Int)) : Cx := { T := T, isPure := tabP [⟨38, e_lleft f⟩], pureK := fun g ds K => tabK [⟨38, e_lleft f⟩] g ds K, memK := fun g dst ds m K => tabMK [] g dst ds m K, meth := tabM [], keep := fun r => match r with | 3 => [1, 2, 5] | _ => [], keepX := fun r => match r with | 3 => [1, 2] | _ => [], loopT := fun r ds m K => match r with | 3 => l_lleft_3 N f ds m K | _ => none, jumps := 9 }
theorem F_lleft_3_ok {R : Type} (N : Nat) (f : Int → Int → List V → Int → Option (Int)) (n2 : Int) (n3 : Int) (vs4 : List V) (n0 : Int) (n1 : Int) (L : List D → Mem → Option R) (K : Ex → List D → Mem → Option R) :
    roundK (fun st K => codeK (cx_lleft N f) (loopN Tryd.f38 0) st K) 27 [1, 2, 5] [1, 2] L [(.v (.int .i64 n0) .no), (.ptr 0 2 0), (.v (.int .i64 n1) .no)] [[(2, ⟨24, [(.v (.int .i64 n2) .no), (.v (.int .i64 n3) .no), (.v (.sl 24 vs4) .no)]⟩)]] K = F_lleft_3 N f n2 n3 vs4 (fun n0 n1 => L [(.v (.int .i64 n0) .no), (.ptr 0 2 0), (.v (.int .i64 n1) .no)] [[(2, ⟨24, [(.v (.int .i64 n2) .no), (.v (.int .i64 n3) .no), (.v (.sl 24 vs4) .no)]⟩)]]) (fun a0 => K (.exit 0) [(.v (.int .i64 a0) .no), (.ptr 0 2 0)] [[(2, ⟨24, [(.v (.int .i64 n2) .no), (.v (.int .i64 n3) .no), (.v (.sl 24 vs4) .no)]⟩)]]) n0 n1 := by
  kernel_rfl
theorem S_lleft_3_ok {R : Type} (N : Nat) (f : Int → Int → List V → Int → Option (Int)) (n2 : Int) (n3 : Int) (vs4 : List V) (K : Ex → List D → Mem → Option R) : ∀ (t : Nat) (n0 : Int) (n1 : Int),
    loopK (fun st K => codeK (cx_lleft N f) (loopN Tryd.f38 0) st K) 27 [1, 2, 5] [1, 2] t [(.v (.int .i64 n0) .no), (.ptr 0 2 0), (.v (.int .i64 n1) .no)] [[(2, ⟨24, [(.v (.int .i64 n2) .no), (.v (.int .i64 n3) .no), (.v (.sl 24 vs4) .no)]⟩)]] K = S_lleft_3 N f n2 n3 vs4 t n0 n1 (fun a0 => K (.exit 0) [(.v (.int .i64 a0) .no), (.ptr 0 2 0)] [[(2, ⟨24, [(.v (.int .i64 n2) .no), (.v (.int .i64 n3) .no), (.v (.sl 24 vs4) .no)]⟩)]])
  | 0, n0, n1 => rfl
  | t + 1, n0, n1 => (F_lleft_3_ok N f n2 n3 vs4 n0 n1 _ K).trans (congrArg (fun L => F_lleft_3 N f n2 n3 vs4 L (fun a0 => K (.exit 0) [(.v (.int .i64 a0) .no), (.ptr 0 2 0)] [[(2, ⟨24, [(.v (.int .i64 n2) .no), (.v (.int .i64 n3) .no), (.v (.sl 24 vs4) .no)]⟩)]]) n0 n1) (funext fun n0 => funext fun n1 => S_lleft_3_ok N f n2 n3 vs4 K t n0 n1))
theorem B_lleft_ok (N : Nat) (f : Int → Int → List V → Int → Option (Int)) (x0 : Int) (x1 : Int) (x2 : List V) (x3 : Int) : bodyK (cx_lleft N f) Tryd.f38 [.agg [.v (.int .i64 x0) .no, .v (.int .i64 x1) .no, .v (.sl 24 x2) .no], .v (.int .i64 x3) .no] [] r_lleft = B_lleft N f x0 x1 x2 x3 := by
  kernel_rfl
theorem go_lleft : Goes Tryd.prog 38 := goes_of Tryd.func38 (by kernel_rfl) (c := bodyOf Tryd.f38) (by kernel_rfl)
theorem eo_lleft (s : Int → Int → List V → Int → Option (Int)) (hs : ∀ (x0 : Int) (x1 : Int) (x2 : List V) (x3 : Int) (r0 : Int), s x0 x1 x2 x3 = some r0 → PureRet Tryd.prog T 38 [.agg [.v (.int .i64 x0) .no, .v (.int .i64 x1) .no, .v (.sl 24 x2) .no], .v (.int .i64 x3) .no] [.v (.int .i64 r0) .no]) : EntOK Tryd.prog T ⟨38, e_lleft s⟩ := by
  refine ⟨go_lleft, fun R ds K r h => ?_, fun R ds K => ?_⟩
  · simp only [e_lleft] at h
    split at h
    · obtain ⟨r0, h1, h2⟩ := bnd1_some h
      exact ⟨_, h2, hs _ _ _ _ _ h1⟩
    · cases h
  · simp only [e_lleft]
    split
    · rw [bnd1_b]; rfl
    · rfl
theorem co_lleft (N : Nat) (f : Int → Int → List V → Int → Option (Int)) (hf : ∀ (x0 : Int) (x1 : Int) (x2 : List V) (x3 : Int) (r0 : Int), f x0 x1 x2 x3 = some r0 → PureRet Tryd.prog T 38 [.agg [.v (.int .i64 x0) .no, .v (.int .i64 x1) .no, .v (.sl 24 x2) .no], .v (.int .i64 x3) .no] [.v (.int .i64 r0) .no]) : CxOK Tryd.prog (cx_lleft N f) :=
  cxOK_of2 (es := [⟨38, e_lleft f⟩]) (me := []) (ms := []) T_ok ⟨eo_lleft f hf, trivial⟩ trivial trivial rfl (fun _ _ _ _ => rfl) (fun _ _ _ _ _ _ => rfl) rfl
theorem lk_lleft_3 (N : Nat) (f : Int → Int → List V → Int → Option (Int)) : LoopOK (cx_lleft N f) 27 (loopN Tryd.f38 0) := by
  refine loopOK_of (rid := 3) (by kernel_rfl) rfl rfl fun R ds m K r h => ?_
  have h : l_lleft_3 N f ds m K = some r := h
  unfold l_lleft_3 at h
  split at h
  · exact ⟨N, Eq.trans (S_lleft_3_ok ..) h⟩
  · cases h
theorem lo_lleft (N : Nat) (f : Int → Int → List V → Int → Option (Int)) : LoopsOK (cx_lleft N f) Tryd.f38.ntmps (bodyOf Tryd.f38) :=
  loopsOK_of (k := 1) (by kernel_rfl) ⟨trivial, lk_lleft_3 N f⟩
theorem p_lleft (N : Nat) : ∀ (M : Nat) (x0 : Int) (x1 : Int) (x2 : List V) (x3 : Int) (r0 : Int), s_lleft N M x0 x1 x2 x3 = some r0 → PureRet Tryd.prog T 38 [.agg [.v (.int .i64 x0) .no, .v (.int .i64 x1) .no, .v (.sl 24 x2) .no], .v (.int .i64 x3) .no] [.v (.int .i64 r0) .no]
  | 0, _, _, _, _, _, h => by cases h
  | M + 1, x0, x1, x2, x3, r0, h => pure_of (cx := cx_lleft N (s_lleft N M)) (by kernel_rfl) (co_lleft N (s_lleft N M) (p_lleft N M)) Tryd.func38 (by kernel_rfl) (by kernel_rfl) (lo_lleft N (s_lleft N M)) rfl rfl rfl (rf := r_lleft) ((B_lleft_ok N (s_lleft N M) x0 x1 x2 x3).trans h) (fun rs' m h => by
    unfold r_lleft at h
    split at h
    · cases h; exact ⟨rfl, rfl⟩
    · cases h)
end Go.Proofs.YtahemenhcoedgaaDoor.En

/- Functions of the program in plain Lean, joined to the program by evaluation; printed by a program. -/
namespace Go.Proofs.YtahemenhcoedgaaDoor.En
open Go Go.Proofs
set_option maxRecDepth 100000
set_option linter.unusedVariables false
noncomputable def e_lfew {R : Type} (s : List V → Option (Bool)) (ds : List D) (K : List D → Option R) : Option R :=
  match ds with
  | [.v (.sl 24 x0) .no] => bnd1 (s x0) fun r0 => K [.v (.bool r0) .no]
  | _ => none
noncomputable def r_lfew (rs : List D) (_ : Mem) : Option (Bool) :=
  match rs with
  | [.v (.bool r0) _] => some (r0)
  | _ => none
noncomputable def F_lfew_2 {R : Type} (N : Nat) (vs0 : List V) (Lq : Int → Option R) (K0 : Bool → Option R) (K1 : Option R) (n1 : Int) : Option R :=
  br (decide (n1 < (↑vs0.length : Int)))
  (br (decide (0 ≤ n1) && decide (n1 < (↑vs0.length : Int)))
    (at? vs0 n1.toNat fun x0 =>
      x0.unAgg fun l1 =>
        unCons l1 fun x2 l3 =>
          V.unInt IntKind.i64 x2 fun n4 =>
            unCons l3 fun x5 l6 => V.unInt IntKind.i64 x5 fun n7 => unCons l6 fun x8 l9 => V.unSl 24 x8 fun l10 => unNil l9 (bnd1 (s_lleft N N n4 n7 l10 200) fun n11 => br (decide (n11 < 0)) (K0 false) (Lq (IntKind.i64.wrap (n1 + 1)))))
    none)
  K1
noncomputable def S_lfew_2 {R : Type} (N : Nat) (vs0 : List V) : Nat → Int → (Bool → Option R) → (Option R) → Option R
  | 0, _, _, _ => none
  | t + 1, n1, K0, K1 => F_lfew_2 N vs0 (fun n1 => S_lfew_2 N vs0 t n1 K0 K1) K0 K1 n1
noncomputable def l_lfew_2 {R : Type} (N : Nat) (ds : List D) (m : Mem) (K : Ex → List D → Mem → Option R) : Option R :=
  match ds, m with
  | [(.v (.sl 24 vs0) .no), (.v (.int .i64 n1) .no)], [[]] => S_lfew_2 N vs0 N n1 (fun a0 => K .ret [(.v (.bool a0) .no)] [[]]) (K (.exit 0) [.any] [[]])
  | _, _ => none
noncomputable def s_lfew (N : Nat) (x0 : List V) : Option (Bool) :=
  S_lfew_2 N x0 N 0 (fun b0 => some b0) (some true)
noncomputable def cx_lfew (N : Nat) : Cx := { T := T, isPure := tabP [⟨38, e_lleft (s_lleft N N)⟩], pureK := fun g ds K => tabK [⟨38, e_lleft (s_lleft N N)⟩] g ds K, memK := fun g dst ds m K => tabMK [] g dst ds m K, meth := tabM [], keep := fun r => match r with | 2 => [0, 3] | _ => [], keepX := fun r => match r with | 2 => [2] | _ => [], loopT := fun r ds m K => match r with | 2 => l_lfew_2 N ds m K | _ => none, jumps := 9 }
theorem F_lfew_2_ok {R : Type} (N : Nat) (vs0 : List V) (n1 : Int) (L : List D → Mem → Option R) (K : Ex → List D → Mem → Option R) :
    roundK (fun st K => codeK (cx_lfew N) (loopN Tryd.f15 0) st K) 16 [0, 3] [2] L [(.v (.sl 24 vs0) .no), (.v (.int .i64 n1) .no)] [[]] K = F_lfew_2 N vs0 (fun n1 => L [(.v (.sl 24 vs0) .no), (.v (.int .i64 n1) .no)] [[]]) (fun a0 => K .ret [(.v (.bool a0) .no)] [[]]) (K (.exit 0) [.any] [[]]) n1 := by
  kernel_rfl
theorem S_lfew_2_ok {R : Type} (N : Nat) (vs0 : List V) (K : Ex → List D → Mem → Option R) : ∀ (t : Nat) (n1 : Int),
    loopK (fun st K => codeK (cx_lfew N) (loopN Tryd.f15 0) st K) 16 [0, 3] [2] t [(.v (.sl 24 vs0) .no), (.v (.int .i64 n1) .no)] [[]] K = S_lfew_2 N vs0 t n1 (fun a0 => K .ret [(.v (.bool a0) .no)] [[]]) (K (.exit 0) [.any] [[]])
  | 0, n1 => rfl
  | t + 1, n1 => (F_lfew_2_ok N vs0 n1 _ K).trans (congrArg (fun L => F_lfew_2 N vs0 L (fun a0 => K .ret [(.v (.bool a0) .no)] [[]]) (K (.exit 0) [.any] [[]]) n1) (funext fun n1 => S_lfew_2_ok N vs0 K t n1))
theorem s_lfew_ok (N : Nat) (x0 : List V) : bodyK (cx_lfew N) Tryd.f15 [.v (.sl 24 x0) .no] [] r_lfew = s_lfew N x0 := by
  kernel_rfl
theorem go_lfew : Goes Tryd.prog 15 := goes_of Tryd.func15 (by kernel_rfl) (c := bodyOf Tryd.f15) (by kernel_rfl)
theorem eo_lfew (s : List V → Option (Bool)) (hs : ∀ (x0 : List V) (r0 : Bool), s x0 = some r0 → PureRet Tryd.prog T 15 [.v (.sl 24 x0) .no] [.v (.bool r0) .no]) : EntOK Tryd.prog T ⟨15, e_lfew s⟩ := by
  refine ⟨go_lfew, fun R ds K r h => ?_, fun R ds K => ?_⟩
  · simp only [e_lfew] at h
    split at h
    · obtain ⟨r0, h1, h2⟩ := bnd1_some h
      exact ⟨_, h2, hs _ _ h1⟩
    · cases h
  · simp only [e_lfew]
    split
    · rw [bnd1_b]; rfl
    · rfl
theorem co_lfew (N : Nat) : CxOK Tryd.prog (cx_lfew N) :=
  cxOK_of2 (es := [⟨38, e_lleft (s_lleft N N)⟩]) (me := []) (ms := []) T_ok ⟨eo_lleft _ (p_lleft N N), trivial⟩ trivial trivial rfl (fun _ _ _ _ => rfl) (fun _ _ _ _ _ _ => rfl) rfl
theorem lk_lfew_2 (N : Nat) : LoopOK (cx_lfew N) 16 (loopN Tryd.f15 0) := by
  refine loopOK_of (rid := 2) (by kernel_rfl) rfl rfl fun R ds m K r h => ?_
  have h : l_lfew_2 N ds m K = some r := h
  unfold l_lfew_2 at h
  split at h
  · exact ⟨N, Eq.trans (S_lfew_2_ok ..) h⟩
  · cases h
theorem lo_lfew (N : Nat) : LoopsOK (cx_lfew N) Tryd.f15.ntmps (bodyOf Tryd.f15) :=
  loopsOK_of (k := 1) (by kernel_rfl) ⟨trivial, lk_lfew_2 N⟩
theorem p_lfew (N : Nat) (x0 : List V) (r0 : Bool) (h : s_lfew N x0 = some r0) : PureRet Tryd.prog T 15 [.v (.sl 24 x0) .no] [.v (.bool r0) .no] :=
  pure_of (cx := cx_lfew N) (by kernel_rfl) (co_lfew N) Tryd.func15 (by kernel_rfl) (by kernel_rfl) (lo_lfew N) rfl rfl rfl (rf := r_lfew) ((s_lfew_ok N x0).trans h) (fun rs' m h => by
    unfold r_lfew at h
    split at h
    · cases h; exact ⟨rfl, rfl⟩
    · cases h)
end Go.Proofs.YtahemenhcoedgaaDoor.En

/- The printed functions, together. -/

/- Words for the plain laws: branches, numbers, bits, places in a list. No program in sight. -/
namespace Go.Proofs.YtahemenhcoedgaaDoor.En
open Go
set_option linter.unusedVariables false
section
variable {R α β γ δ : Type}
theorem br_t (x y : Option R) : br true x y = x := id rfl
theorem br_f (x y : Option R) : br false x y = y := id rfl
theorem br_dec (p : Prop) [Decidable p] (x y : Option R) : br (decide p) x y = if p then x else y := by
  by_cases h : p <;> simp [br, h]
theorem br_not (c : Bool) (x y : Option R) : br (!c) x y = br c y x := by cases c <;> rfl
theorem br_and (a b : Bool) (x y : Option R) : br (a && b) x y = br a (br b x y) y := by cases a <;> rfl
theorem br_or (a b : Bool) (x y : Option R) : br (a || b) x y = br a x (br b x y) := by cases a <;> rfl
theorem bnd1_mk (a : α) (K : α → Option R) : bnd1 (some a) K = K a := id rfl
theorem bnd2_mk (a : α) (b : β) (K : α → β → Option R) : bnd2 (some (a, b)) K = K a b := id rfl
theorem bnd3_mk (a : α) (b : β) (c : γ) (K : α → β → γ → Option R) : bnd3 (some (a, b, c)) K = K a b c := id rfl
theorem bnd4_mk (a : α) (b : β) (c : γ) (d : δ) (K : α → β → γ → δ → Option R) : bnd4 (some (a, b, c, d)) K = K a b c d := id rfl
theorem bnd5_mk {ε : Type} (a : α) (b : β) (c : γ) (d : δ) (e : ε) (K : α → β → γ → δ → ε → Option R) : bnd5 (some (a, b, c, d, e)) K = K a b c d e := id rfl
theorem at_of {xs : List α} {i : Nat} {x : α} (h : xs[i]? = some x) (K : α → Option R) : at? xs i K = K x := by simp [at?, h]
theorem at_zero (x : α) (r : List α) (K : α → Option R) : at? (x :: r) 0 K = K x := id rfl
theorem at_succ (x : α) (r : List α) (i : Nat) (K : α → Option R) : at? (x :: r) (i + 1) K = at? r i K := by simp [at?]
theorem at_mid (pre : List α) (x : α) (suf : List α) (K : α → Option R) : at? (pre ++ x :: suf) pre.length K = K x := at_of (by simp) K
theorem unInt_mk (k : IntKind) (n : Int) (K : Int → Option R) : V.unInt k (.int k n) K = K n := by simp [V.unInt]
theorem unBool_mk (b : Bool) (K : Bool → Option R) : V.unBool (.bool b) K = K b := id rfl
theorem unStr_mk (s : List UInt8) (K : List UInt8 → Option R) : V.unStr (.str s) K = K s := id rfl
theorem unBytes_mk (s : List UInt8) (K : List UInt8 → Option R) : V.unBytes (.bytes s) K = K s := id rfl
theorem unSl_mk (e : TypeId) (s : List V) (K : List V → Option R) : V.unSl e (.sl e s) K = K s := by simp [V.unSl]
theorem unAgg_mk (s : List V) (K : List V → Option R) : V.unAgg (.agg s) K = K s := id rfl
theorem unCons_mk (x : V) (r : List V) (K : V → List V → Option R) : unCons (x :: r) K = K x r := id rfl
theorem unNil_mk (K : Option R) : unNil [] K = K := id rfl
end
/-! Numbers -/
theorem w64 {n : Int} (h1 : -9223372036854775808 ≤ n) (h2 : n ≤ 9223372036854775807) : IntKind.i64.wrap n = n := by
  rw [IntKind.wrap_i64]; omega
theorem wu8 (n : Int) : IntKind.u8.wrap n = n % 256 := IntKind.wrap_u8 n
theorem ofInt_toNat64 (a : Int) : (BitVec.ofInt 64 a).toNat = (a % 18446744073709551616).toNat := by
  rw [BitVec.toNat_ofInt]; rfl
theorem fdiv_pos (a b : Int) (h : 0 < b) : a.fdiv b = a / b := by rw [Int.fdiv_eq_ediv_of_nonneg _ (by omega)]
theorem shr8 (a : Int) : shrI .i64 a 8 = a / 256 := by
  show a.fdiv (2 ^ (min (8 : Int).toNat 64)) = _
  exact fdiv_pos a 256 (by omega)
/-- a & (2^k - 1) -/
theorem and_mask (a : Int) (k : Nat) (hk : k ≤ 62) : bitsI .and .i64 a ((2 ^ k - 1 : Nat) : Int) = a % (2 ^ k : Nat) := by
  have hp : (2 ^ k : Nat) ≤ 2 ^ 62 := Nat.pow_le_pow_right (by omega) hk
  have h0 : 0 < 2 ^ k := Nat.pos_of_ne_zero (by simp)
  have e1 : (BitVec.ofInt 64 ((2 ^ k - 1 : Nat) : Int)).toNat = 2 ^ k - 1 := by
    rw [ofInt_toNat64]; omega
  have e2 : (BitVec.ofInt 64 a &&& BitVec.ofInt 64 ((2 ^ k - 1 : Nat) : Int)).toNat = (a % 18446744073709551616).toNat % 2 ^ k := by
    rw [BitVec.toNat_and, e1, ofInt_toNat64, Nat.and_two_pow_sub_one_eq_mod]
  have hd : (2 ^ k : Nat) ∣ 18446744073709551616 := by
    have : (18446744073709551616 : Nat) = 2 ^ 64 := by decide
    rw [this]; exact Nat.pow_dvd_pow 2 (by omega)
  have e3 : ((((a % 18446744073709551616).toNat % 2 ^ k : Nat)) : Int) = a % (2 ^ k : Nat) := by
    rw [Int.natCast_emod]
    rw [Int.toNat_of_nonneg (Int.emod_nonneg _ (by omega))]
    have hd' : ((2 ^ k : Nat) : Int) ∣ ((18446744073709551616 : Nat) : Int) := Int.natCast_dvd_natCast.2 hd
    exact Int.emod_emod_of_dvd a hd'
  show IntKind.i64.wrap ((BitVec.ofInt 64 a &&& BitVec.ofInt 64 _).toNat : Int) = _
  rw [e2, e3]
  have := Int.emod_nonneg a (b := ((2 ^ k : Nat) : Int)) (by omega)
  have := Int.emod_lt_of_pos a (b := ((2 ^ k : Nat) : Int)) (by omega)
  exact w64 (by omega) (by omega)
theorem and31 (a : Int) : bitsI .and .i64 a 31 = a % 32 := and_mask a 5 (by omega)
theorem and255 (a : Int) : bitsI .and .i64 a 255 = a % 256 := and_mask a 8 (by omega)
theorem and_two_pow' (m k : Nat) : m &&& 2 ^ k = 2 ^ k * (m / 2 ^ k % 2) := by
  apply Nat.eq_of_testBit_eq
  intro i
  rw [Nat.testBit_and, Nat.testBit_two_pow, Nat.mul_comm, ← Nat.shiftLeft_eq, Nat.testBit_shiftLeft]
  have h2 : m / 2 ^ k % 2 = (m.testBit k).toNat := by
    rw [Nat.testBit_eq_decide_div_mod_eq]
    have : m / 2 ^ k % 2 < 2 := Nat.mod_lt _ (by omega)
    rcases (by omega : m / 2 ^ k % 2 = 0 ∨ m / 2 ^ k % 2 = 1) with h | h <;> simp [h]
  rw [h2]
  by_cases hk : k = i
  · subst hk; cases m.testBit k <;> simp
  · simp only [hk, decide_false, Bool.and_false]
    by_cases hl : k ≤ i
    · obtain ⟨j, rfl⟩ : ∃ j, i = k + (j + 1) := ⟨i - k - 1, by omega⟩
      rw [show k + (j + 1) - k = j + 1 by omega]
      cases m.testBit k <;> simp [Nat.testBit_succ]
    · simp [hl]
/-- a & 2^k -/
theorem and_bit (a : Int) (k : Nat) (hk : k ≤ 62) : bitsI .and .i64 a ((2 ^ k : Nat) : Int) = (2 ^ k : Nat) * (a / (2 ^ k : Nat) % 2) := by
  have hp : (2 ^ k : Nat) ≤ 2 ^ 62 := Nat.pow_le_pow_right (by omega) hk
  have h0 : 0 < 2 ^ k := Nat.pos_of_ne_zero (by simp)
  have e1 : (BitVec.ofInt 64 ((2 ^ k : Nat) : Int)).toNat = 2 ^ k := by rw [ofInt_toNat64]; omega
  generalize hm : (a % 18446744073709551616).toNat = m
  have e2 : (BitVec.ofInt 64 a &&& BitVec.ofInt 64 ((2 ^ k : Nat) : Int)).toNat = 2 ^ k * (m / 2 ^ k % 2) := by
    rw [BitVec.toNat_and, e1, ofInt_toNat64, hm, and_two_pow']
  have hd : (2 ^ (k + 1) : Nat) ∣ 18446744073709551616 := by
    have : (18446744073709551616 : Nat) = 2 ^ 64 := by decide
    rw [this]; exact Nat.pow_dvd_pow 2 (by omega)
  have e3 : ((m / 2 ^ k % 2 : Nat) : Int) = a / (2 ^ k : Nat) % 2 := by
    have hmi : (m : Int) = a % 18446744073709551616 := by rw [← hm, Int.toNat_of_nonneg (Int.emod_nonneg _ (by omega))]
    obtain ⟨q, hq⟩ := hd
    have hq' : (18446744073709551616 : Int) = ((2 ^ k : Nat) : Int) * (2 * (q : Int)) := by
      have : (18446744073709551616 : Nat) = 2 ^ k * (2 * q) := by rw [hq, Nat.pow_succ, Nat.mul_assoc]
      rw [show (18446744073709551616 : Int) = ((18446744073709551616 : Nat) : Int) by rfl, this]; push_cast; rfl
    rw [Int.natCast_emod, Int.natCast_ediv, hmi]
    have ha := Int.emod_add_mul_ediv a 18446744073709551616
    generalize a / 18446744073709551616 = z at ha
    have e : a = a % 18446744073709551616 + ((2 ^ k : Nat) : Int) * (2 * (q : Int) * z) := by
      rw [← Int.mul_assoc, ← hq']; omega
    conv => rhs; rw [e]
    rw [Int.add_mul_ediv_left _ _ (by omega)]
    rw [show (2 : Int) * (q : Int) * z = (q * z) * 2 by rw [Int.mul_assoc, Int.mul_comm]]
    exact (Int.add_mul_emod_self_right _ _ _).symm
  show IntKind.i64.wrap ((BitVec.ofInt 64 a &&& BitVec.ofInt 64 _).toNat : Int) = _
  rw [e2]
  have h2 : ((2 ^ k * (m / 2 ^ k % 2) : Nat) : Int) = (2 ^ k : Nat) * (a / (2 ^ k : Nat) % 2) := by rw [Int.natCast_mul, e3]
  rw [h2]
  have : a / ((2 ^ k : Nat) : Int) % 2 = 0 ∨ a / ((2 ^ k : Nat) : Int) % 2 = 1 := by omega
  rcases this with h | h <;> rw [h] <;> exact w64 (by omega) (by omega)
theorem and32 (a : Int) : bitsI .and .i64 a 32 = 32 * (a / 32 % 2) := and_bit a 5 (by omega)
end Go.Proofs.YtahemenhcoedgaaDoor.En

/- The engine, part 2r: what an argument that came in reads as. No program in sight. -/
namespace Go.Proofs.YtahemenhcoedgaaDoor.En
open Go Go.RowKit
set_option linter.unusedVariables false
/-- A world of arguments: nothing is written. -/
def immG (T : TypeId → Option Ty) : G := { Γ := fun _ => .imm, J := fun _ _ => 0, sz := sizes T }
theorem stable_imm (T : TypeId → Option Ty) (b o : Nat) : Stable (immG T) b o := trivial
/-- An element, given its cells. -/
def mkEl (row : Bool) (cs : List V) : V := match row with | true => .agg cs | false => cs.headD .nilI
/-- Cells that have the shape of a type. -/
def FitsFs (F : TypeId → List V → Prop) : List Field → List V → Prop
  | [], xs => xs = []
  | f :: fs, xs => ∃ a r, xs = a ++ r ∧ F f.type a ∧ FitsFs F fs r
def Fits (T : TypeId → Option Ty) : Nat → TypeId → List V → Prop
  | 0, _, _ => False
  | n + 1, t, xs => match T t with
    | none => False
    | some ty => match ty.desc with
      | .bool => ∃ b, xs = [.bool b]
      | .int k => ∃ i, xs = [.int k i] ∧ k.min ≤ i ∧ i ≤ k.max
      | .string => ∃ s, xs = [.str s] ∧ s.length ≤ maxLen
      | .slice e => match ty.cks with
        | [.bytes _] => ∃ s, xs = [.bytes s] ∧ s.length ≤ maxLen
        | [.slc e'] => e' = e ∧ ∃ ys, xs = [.sl e ys] ∧ ys.length ≤ maxLen ∧ ∀ y ∈ ys, ∃ te cs, T e = some te ∧ y = mkEl te.row cs ∧ Fits T n e cs
        | _ => False
      | .struct fs => FitsFs (Fits T n) fs.toList xs
      | _ => False
/-- A type that is read. -/
def readable (T : TypeId → Option Ty) (t : TypeId) : Bool :=
  match T t with
  | none => false
  | some ty => match ty.desc with
    | .bool => true
    | .int _ => true
    | .string => true
    | .slice e => (match T e with
      | none => false
      | some te => (match ty.cks with
        | [.bytes _] => (match te.desc with | .int .u8 => Nat.beq te.size 1 | _ => false)
        | [.slc e'] => Nat.beq e' e && Nat.ble 1 te.size && (match te.row with | true => true | false => Nat.beq te.size 1)
        | _ => false))
    | .struct fs => contigT T ty.size 0 fs.toList && fs.toList.all (fun f => match T f.type with | some _ => true | none => false)
    | _ => false
/-- The types that a type leads to. -/
def closedT (T : TypeId → Option Ty) (l : List TypeId) : Bool :=
  l.all fun t => readable T t && (match T t with
    | none => false
    | some ty => match ty.desc with
      | .slice e => l.any (Nat.beq e)
      | .struct fs => fs.toList.all fun f => l.any (Nat.beq f.type)
      | _ => true)
section
variable {H : Type} {enc : TypeId × Value → H} {P : Program} {T : TypeId → Option Ty} {w : World} {base : Nat} {spare : Nat → Bool} {held : Bool}
structure RepC (T : TypeId → Option Ty) (w : World) (xs : List V) (cs : List Value) : Prop where
  len : xs.length = cs.length
  one : ∀ x ∈ xs, x.one = true
  rep : ∀ (k : Nat) y, xs[k]? = some y → RepV (immG T) w y (cs.getD k undef)
theorem RepC.single {x : V} {v : Value} (h1 : x.one = true) (h : RepV (immG T) w x v) : RepC T w [x] [v] :=
  ⟨rfl, fun y hy => by simp at hy; subst hy; exact h1, fun k y hk => by
    rcases k with _ | k
    · simp at hk; subst hk; simpa using h
    · simp at hk⟩
theorem RepC.append {xs ys : List V} {cs ds : List Value} (h : RepC T w xs cs) (k : RepC T w ys ds) : RepC T w (xs ++ ys) (cs ++ ds) := by
  refine ⟨by simp [h.len, k.len], fun x hx => ?_, fun i y hy => ?_⟩
  · rcases List.mem_append.1 hx with hx | hx
    · exact h.one x hx
    · exact k.one x hx
  · rcases Nat.lt_or_ge i xs.length with hl | hl
    · rw [List.getElem?_append_left hl] at hy
      have := h.rep i y hy
      rw [List.getD_eq_getElem?_getD, List.getElem?_append_left (by rw [← h.len]; exact hl), ← List.getD_eq_getElem?_getD]
      exact this
    · rw [List.getElem?_append_right hl] at hy
      have := k.rep _ y hy
      rw [List.getD_eq_getElem?_getD, List.getElem?_append_right (by rw [← h.len]; exact hl), ← h.len, ← List.getD_eq_getElem?_getD]
      exact this
theorem cellsOf_eq (hT : TypesOK P T) {t : TypeId} {ty : Ty} (h : T t = some ty) : P.cellsOf t = ty.size := by
  obtain ⟨i, h1, _, h2, _⟩ := (hT t ty h).info
  simp [Program.cellsOf, h1, h2]
theorem sizes_eq {t : TypeId} {ty : Ty} (h : T t = some ty) : sizes T t = ty.size := by unfold sizes; rw [h]
theorem add_none (b off i : Nat) : (⟨b, off, none⟩ : Addr).add i = ⟨b, off + i, none⟩ := by
  unfold Addr.add
  by_cases h0 : i = 0
  · subst h0; rfl
  · rw [if_neg h0]
theorem spot_row {a : Addr} {n k : Nat} {cs : List Value} (h : w.cells? base (a.add (0 * n)) k = some cs) (hk : 0 < k) : a.spot = none := by
  obtain ⟨_, hl, h5⟩ := World.cells?_some h
  have h6 := h5 0 hk
  rw [List.getElem?_eq_getElem (by omega)] at h6
  have := World.cell?_spot h6
  simpa [Addr.add] using this
theorem mkEl_cells {row : Bool} {cs : List V} (ho : ∀ x ∈ cs, x.one = true) (h : row = false → cs.length = 1) : (mkEl row cs).cells = cs := by
  cases row with
  | true => rfl
  | false =>
    have := h rfl
    match cs, this with
    | [x], _ =>
      have := ho x (by simp)
      show V.cells x = [x]
      cases x <;> first | rfl | cases this
theorem okEl_mk {row : Bool} {cs : List V} {n : Nat} (hl : cs.length = n) (ho : ∀ x ∈ cs, x.one = true) (h : row = false → cs.length = 1) : okEl n (mkEl row cs) = true := by
  unfold okEl
  rw [mkEl_cells ho h]
  simp only [Bool.and_eq_true, beq_iff_eq, List.all_eq_true]
  exact ⟨hl, ho⟩
theorem flatT_get {α : Type} {n : Nat} : ∀ (l : List (List α)) (i j : Nat) (c : List α), (∀ c ∈ l, c.length = n) → l[i]? = some c → j < n → l.flatten[i * n + j]? = c[j]?
  | [], i, j, c, _, h, _ => by simp at h
  | d :: l, 0, j, c, hl, h, hj => by
    simp at h; subst h
    have := hl d (by simp)
    rw [List.flatten_cons, Nat.zero_mul, Nat.zero_add, List.getElem?_append_left (by omega)]
  | d :: l, i + 1, j, c, hl, h, hj => by
    have hd := hl d (by simp)
    rw [List.flatten_cons, Nat.succ_mul, List.getElem?_append_right (by omega)]
    rw [show i * n + n + j - d.length = i * n + j by omega]
    exact flatT_get l i j c (fun c hc => hl c (by simp [hc])) (by simpa using h) hj
theorem flatT_len {α : Type} {n : Nat} : ∀ (l : List (List α)), (∀ c ∈ l, c.length = n) → l.flatten.length = l.length * n
  | [], _ => by simp
  | d :: l, h => by
    rw [List.flatten_cons, List.length_append, h d (by simp), flatT_len l fun c hc => h c (by simp [hc]), List.length_cons, Nat.succ_mul]; omega
theorem choose_list {α : Type} {p : Nat → α → Prop} : ∀ (n : Nat), (∀ i, i < n → ∃ a, p i a) → ∃ l : List α, l.length = n ∧ ∀ (i : Nat) a, l[i]? = some a → p i a
  | 0, _ => ⟨[], rfl, fun i a h => by simp at h⟩
  | n + 1, h => by
    obtain ⟨l, h1, h2⟩ := choose_list n fun i hi => h i (by omega)
    obtain ⟨a, ha⟩ := h n (by omega)
    refine ⟨l ++ [a], by simp [h1], fun i b hb => ?_⟩
    rcases Nat.lt_or_ge i l.length with hl | hl
    · rw [List.getElem?_append_left hl] at hb; exact h2 i b hb
    · rw [List.getElem?_append_right hl] at hb
      have : i = n := by
        have := (List.getElem?_eq_some_iff.1 hb).1
        simp at this; omega
      subst this
      rw [h1] at hb
      simp at hb
      subst hb; exact ha
theorem trod_rep (hT : TypesOK P T) {l : List TypeId} (hl : closedT T l = true) : ∀ (fuel : Nat) (t : TypeId) (cs : List Value) (x : DataW H × List MemPlace), t ∈ l → DataW.trod enc P w base spare held fuel t cs = some x →
    ∃ xs, RepC T w xs cs ∧ Fits T fuel t xs ∧ ∀ ty, T t = some ty → cs.length = ty.size
  | 0, t, cs, x, _, h => by simp [DataW.trod] at h
  | n + 1, t, cs, x, hm, h => by
    have hcl := List.all_eq_true.1 hl t hm
    simp only [Bool.and_eq_true] at hcl
    obtain ⟨hre, hlead⟩ := hcl
    unfold Fits
    unfold readable at hre
    cases hTt : T t with
    | none => rw [hTt] at hre; simp at hre
    | some ty =>
    rw [hTt] at hre hlead
    simp only at hre hlead ⊢
    have hd := (hT t ty hTt).desc
    have h1c : ty.row = false → ty.size = 1 := (hT t ty hTt).one
    cases hdesc : ty.desc <;> rw [hdesc] at hre hlead hd <;> simp only [Bool.false_eq_true] at hre hlead ⊢
    · obtain ⟨b, rfl, _⟩ := DataW.trod_bool hd h
      exact ⟨[.bool b], .single rfl (.bool b), ⟨b, rfl⟩, fun ty' e => by cases e; rw [h1c (by simp [Ty.row, hdesc])]; rfl⟩
    · rename_i k
      obtain ⟨i, rfl, _, hwf⟩ := DataW.trod_int hd h
      have hb : k.min ≤ i ∧ i ≤ k.max := by simpa [Lit.wf] using hwf
      exact ⟨[.int k i], .single rfl (.int k i hb), ⟨i, rfl, hb⟩, fun ty' e => by cases e; rw [h1c (by simp [Ty.row, hdesc])]; rfl⟩
    · obtain ⟨s, rfl, _, hs⟩ := DataW.trod_string hd h
      have e : s = ⟨s.data.toList.toArray⟩ := by cases s; simp
      have hsl : s.data.toList.length = s.size := by cases s; rfl
      refine ⟨[.str s.data.toList], .single rfl ?_, ⟨_, rfl, by rw [hsl]; exact hs⟩, fun ty' e => by cases e; rw [h1c (by simp [Ty.row, hdesc])]; rfl⟩
      have := RepV.str (g := immG T) (w := w) s.data.toList (by rw [hsl]; unfold maxLen at hs; omega)
      rwa [← e] at this
    · rename_i e
      cases hTe : T e with
      | none => rw [hTe] at hre; simp at hre
      | some te =>
      rw [hTe] at hre
      simp only at hre
      have hsz := cellsOf_eq hT hTe
      have hmem : e ∈ l := by
        obtain ⟨z, hz, hb⟩ := List.any_eq_true.1 hlead
        have := Nat.eq_of_beq_eq_true hb
        subst this; exact hz
      have hsize : ∀ ty', some ty = some ty' → ∀ v : Value, [v].length = ty'.size := fun ty' e v => by cases e; rw [h1c (by simp [Ty.row, hdesc])]; rfl
      split at hre
      · rename_i e0 hcks
        split at hre
        · rename_i hte
          have hte1 := Nat.eq_of_beq_eq_true hre
          rw [hte1] at hsz
          have hde := (hT e te hTe).desc
          rw [hte] at hde
          rcases DataW.trod_slice hd h with ⟨rfl, _⟩ | ⟨a, len, cap, elems, rest, m, e1, rfl, _, hb, hlc, hcm, hel, hget, _, _⟩
          · exact ⟨[.bytes []], .single rfl (.bytes [] none 0 0 rfl (Nat.le_refl _) (by simp) (fun k x hx => by simp at hx)), ⟨[], rfl, by simp⟩, fun ty' e => hsize ty' e _⟩
          · have key : ∀ i, i < len → ∃ b : UInt8, ∃ bb off, a = ⟨bb, off, none⟩ ∧ w.cell? ⟨bb, off + i, none⟩ = some (.int .u8 (b.toNat : Int)) := by
              intro i hi
              have h2 := hget i hi
              rw [List.getElem?_eq_getElem (by rw [hel]; exact hi), Option.bind_eq_some_iff] at h2
              obtain ⟨cs, h3, h4⟩ := h2
              obtain ⟨z, rfl, _, hwf⟩ := DataW.trod_int hde h4
              rw [hsz, Nat.mul_one] at h3
              obtain ⟨_, _, h5⟩ := World.cells?_some h3
              have h6 := h5 0 (by omega)
              simp at h6
              have hzr : 0 ≤ z ∧ z ≤ 255 := by simpa [Lit.wf, IntKind.min, IntKind.max, IntKind.signed, IntKind.bits] using hwf
              have hspn : a.spot = none := by
                have h2 := hget 0 (by omega)
                rw [List.getElem?_eq_getElem (by omega), Option.bind_eq_some_iff] at h2
                obtain ⟨cs, h3, _⟩ := h2
                exact spot_row h3 (by omega)
              obtain ⟨bb, off, sp⟩ := a
              simp only at hspn
              subst hspn
              refine ⟨UInt8.ofNat z.toNat, bb, off, rfl, ?_⟩
              rw [add_none] at h6
              have hz2 : (off + i + 0) = off + i := rfl
              rw [show ((UInt8.ofNat z.toNat).toNat : Int) = z by rw [UInt8.toNat_ofNat', Nat.mod_eq_of_lt (by omega)]; omega]
              simpa [Addr.add] using h6
            obtain ⟨bs, b1, b2⟩ := choose_list len key
            refine ⟨[.bytes bs], .single rfl (.bytes bs (some a) len cap b1 hlc hcm fun k x hx => ?_), ⟨bs, rfl, by omega⟩, fun ty' e => hsize ty' e _⟩
            obtain ⟨bb, off, c1, c2⟩ := b2 k x hx
            exact ⟨bb, off, by rw [c1], stable_imm T _ _, c2⟩
        · cases hre
      · rename_i e0 hcks
        simp only [Bool.and_eq_true] at hre
        obtain ⟨⟨he0, hte1⟩, hrow⟩ := hre
        have he0 := Nat.eq_of_beq_eq_true he0
        have hte1 := Nat.le_of_ble_eq_true hte1
        have hrow1 : te.row = false → te.size = 1 := (hT e te hTe).one
        have hszs : (immG T).sz e = te.size := sizes_eq hTe
        rcases DataW.trod_slice hd h with ⟨rfl, _⟩ | ⟨a, len, cap, elems, rest, m, e1, rfl, _, hb, hlc, hcm, hel, hget, _, _⟩
        · exact ⟨[.sl e []], .single rfl (.sl e [] none 0 0 (fun _ => undef) rfl (Nat.le_refl _) (by simp) (by simp) (fun k y hy => by simp at hy) (fun k y hy => by simp at hy)), ⟨he0, [], rfl, by simp, by simp⟩, fun ty' e => hsize ty' e _⟩
        · obtain rfl : n = m := by omega
          have key : ∀ i, i < len → ∃ p : List V × List Value, RepC T w p.1 p.2 ∧ Fits T n e p.1 ∧ p.2.length = te.size ∧ ∃ bb off, a = ⟨bb, off, none⟩ ∧ ∀ j, j < te.size → w.cell? ⟨bb, off + (i * te.size + j), none⟩ = some (p.2.getD j undef) := by
            intro i hi
            have h2 := hget i hi
            rw [List.getElem?_eq_getElem (by rw [hel]; exact hi), Option.bind_eq_some_iff] at h2
            obtain ⟨cs, h3, h4⟩ := h2
            obtain ⟨xs, c1, c2, c3⟩ := trod_rep hT hl n e cs _ hmem h4
            have c3 := c3 te hTe
            rw [hsz] at h3
            obtain ⟨_, _, h5⟩ := World.cells?_some h3
            have hspn : a.spot = none := by
              have h2 := hget 0 (by omega)
              rw [List.getElem?_eq_getElem (by omega), Option.bind_eq_some_iff] at h2
              obtain ⟨cs, h3, _⟩ := h2
              exact spot_row h3 (by omega)
            obtain ⟨bb, off, sp⟩ := a
            simp only at hspn
            subst hspn
            refine ⟨(xs, cs), c1, c2, c3, bb, off, rfl, fun j hj => ?_⟩
            have h7 := h5 j hj
            rw [add_none, add_none, Nat.add_assoc] at h7
            rw [h7, List.getD_eq_getElem?_getD]
            show cs[j]? = some (cs[j]?.getD undef)
            rw [List.getElem?_eq_getElem (by omega)]; rfl
          obtain ⟨ps, b1, b2⟩ := choose_list len key
          have hxl : ∀ p ∈ ps, p.1.length = te.size ∧ ∀ x ∈ p.1, x.one = true := by
            intro p hp
            obtain ⟨i, hi⟩ := List.getElem?_of_mem hp
            obtain ⟨c1, _, c3, _⟩ := b2 i p hi
            exact ⟨by rw [c1.len, c3], c1.one⟩
          have hcells : ∀ p ∈ ps, (mkEl te.row p.1).cells = p.1 := fun p hp => mkEl_cells (hxl p hp).2 fun hr => by rw [(hxl p hp).1, hrow1 hr]
          have hflat : (ps.map fun p => mkEl te.row p.1).flatMap V.cells = (ps.map (·.1)).flatten := by
            rw [List.flatMap_def, List.map_map]
            congr 1
            exact List.map_congr_left fun p hp => hcells p hp
          have hall : ∀ c ∈ ps.map (·.1), c.length = te.size := fun c hc => by
            obtain ⟨p, hp, rfl⟩ := List.mem_map.1 hc
            exact (hxl p hp).1
          have hlook : ∀ (k : Nat) (y : V), ((ps.map fun p => mkEl te.row p.1).flatMap V.cells)[k]? = some y → ∃ i j p, k = i * te.size + j ∧ j < te.size ∧ ps[i]? = some p ∧ p.1[j]? = some y := by
            intro k y hk
            rw [hflat] at hk
            have hk1 := (List.getElem?_eq_some_iff.1 hk).1
            rw [flatT_len _ hall, List.length_map, b1] at hk1
            have hpos : 0 < te.size := by omega
            have hi : k / te.size < len := (Nat.div_lt_iff_lt_mul hpos).2 hk1
            have hj : k % te.size < te.size := Nat.mod_lt _ hpos
            have hkk : k = k / te.size * te.size + k % te.size := by rw [Nat.mul_comm]; exact (Nat.div_add_mod k te.size).symm
            have hp : ps[k / te.size]? = some (ps[k / te.size]'(by omega)) := List.getElem?_eq_getElem (by omega)
            refine ⟨k / te.size, k % te.size, _, hkk, hj, hp, ?_⟩
            rw [hkk] at hk
            rw [flatT_get _ _ _ _ hall (by rw [List.getElem?_map, hp]; rfl) hj] at hk
            exact hk
          refine ⟨[.sl e (ps.map fun p => mkEl te.row p.1)], .single rfl (.sl e _ (some a) len cap (fun k => ((ps.map (·.2)).flatten).getD k undef) (by simp [b1]) hlc hcm (fun x hx => ?_) (fun k y hk => ?_) (fun k y hk => ?_)), ⟨he0, _, rfl, by simp [b1]; omega, fun y hy => ?_⟩, fun ty' e => hsize ty' e _⟩
          · obtain ⟨p, hp, rfl⟩ := List.mem_map.1 hx
            rw [hszs]
            exact okEl_mk (hxl p hp).1 (hxl p hp).2 fun hr => by rw [(hxl p hp).1, hrow1 hr]
          · obtain ⟨i, j, p, rfl, hj, hp, hy⟩ := hlook k y hk
            obtain ⟨_, _, c3, bb, off, c4, c5⟩ := b2 i p hp
            refine ⟨bb, off, by rw [c4], stable_imm T _ _, ?_⟩
            rw [c5 j hj]
            have : (ps.map (·.2)).flatten[i * te.size + j]? = p.2[j]? := flatT_get _ _ _ _ (fun c hc => by
              obtain ⟨q, hq, rfl⟩ := List.mem_map.1 hc
              obtain ⟨i', hi'⟩ := List.getElem?_of_mem hq
              exact (b2 i' q hi').2.2.1) (by rw [List.getElem?_map, hp]; rfl) hj
            rw [List.getD_eq_getElem?_getD, List.getD_eq_getElem?_getD, this]
          · obtain ⟨i, j, p, rfl, hj, hp, hy⟩ := hlook k y hk
            obtain ⟨c1, _, c3, _⟩ := b2 i p hp
            have : (ps.map (·.2)).flatten[i * te.size + j]? = p.2[j]? := flatT_get _ _ _ _ (fun c hc => by
              obtain ⟨q, hq, rfl⟩ := List.mem_map.1 hc
              obtain ⟨i', hi'⟩ := List.getElem?_of_mem hq
              exact (b2 i' q hi').2.2.1) (by rw [List.getElem?_map, hp]; rfl) hj
            have := c1.rep j y hy
            rw [List.getD_eq_getElem?_getD] at this ⊢
            rwa [‹(ps.map (·.2)).flatten[i * te.size + j]? = p.2[j]?›]
          · obtain ⟨p, hp, rfl⟩ := List.mem_map.1 hy
            obtain ⟨i, hi⟩ := List.getElem?_of_mem hp
            exact ⟨te, p.1, rfl, rfl, (b2 i p hi).2.1⟩
      · cases hre
    · rename_i fs
      simp only [Bool.and_eq_true] at hre
      obtain ⟨hco, hfa⟩ := hre
      obtain ⟨ys, m, e1, _, hlen, _, hg⟩ := DataW.trod_struct hd h
      obtain rfl : n = m := by omega
      rw [cellsOf_eq hT hTt] at hlen
      have main : ∀ (l' : List Field) (i off : Nat), fs.toList.drop i = l' → contigT T ty.size off l' = true → off ≤ ty.size → ∃ xs, RepC T w xs (cs.drop off) ∧ FitsFs (Fits T n) l' xs := by
        intro l'
        induction l' with
        | nil =>
          intro i off hdr hc ho
          have := Nat.eq_of_beq_eq_true hc
          refine ⟨[], ⟨by simp; omega, by simp, by simp⟩, rfl⟩
        | cons f l' ih =>
          intro i off hdr hc ho
          simp only [contigT, Bool.and_eq_true] at hc
          obtain ⟨hc1, hc2⟩ := hc
          have hc1 := Nat.eq_of_beq_eq_true hc1
          have hfi : fs.toList[i]? = some f := by
            have : (fs.toList.drop i)[0]? = some f := by rw [hdr]; rfl
            simpa using this
          have hfm : f ∈ fs.toList := List.mem_of_getElem? hfi
          have h1 := List.all_eq_true.1 hfa f hfm
          have hfl : f.type ∈ l := by
            have := List.all_eq_true.1 hlead f hfm
            obtain ⟨z, hz, hb⟩ := List.any_eq_true.1 this
            have := Nat.eq_of_beq_eq_true hb
            rw [this]; exact hz
          cases hTf : T f.type with
          | none => rw [hTf] at h1; simp at h1
          | some tf =>
          have h2 := hg i f (by simpa using hfi)
          rw [cellsOf_eq hT hTf, hc1] at h2
          have hle : off + tf.size ≤ ty.size := by
            have : ∀ (l' : List Field) (off : Nat), contigT T ty.size off l' = true → off ≤ ty.size := by
              intro l'
              induction l' with
              | nil => intro off hc; have := Nat.eq_of_beq_eq_true hc; omega
              | cons f l' ih => intro off hc; simp only [contigT, Bool.and_eq_true] at hc; have := ih _ hc.2; omega
            have := this l' _ hc2
            rw [sizes_eq hTf] at this
            exact this
          have hys : i < ys.length := by
            cases hyi : ys[i]? with
            | none =>
              have hfi2 : i < fs.size := by
                have := (List.getElem?_eq_some_iff.1 hfi).1
                simpa using this
              have : ys.length = fs.size := by assumption
              rw [this]; exact hfi2
            | some y => exact (List.getElem?_eq_some_iff.1 hyi).1
          rw [List.getElem?_eq_getElem hys] at h2
          obtain ⟨xs, c1, c2, _⟩ := trod_rep hT hl n f.type _ _ hfl h2
          obtain ⟨rs, d1, d2⟩ := ih (i + 1) (off + sizes T f.type) (by rw [List.drop_add_one_eq_tail_drop, hdr]; rfl) hc2 (by rw [sizes_eq hTf]; exact hle)
          refine ⟨xs ++ rs, ?_, xs, rs, rfl, c2, d2⟩
          have := c1.append d1
          rw [sizes_eq hTf, ← List.drop_drop, List.take_append_drop] at this
          exact this
      obtain ⟨xs, c1, c2⟩ := main fs.toList 0 0 rfl hco (Nat.zero_le _)
      exact ⟨xs, by simpa using c1, c2, fun ty' e => by cases e; exact hlen⟩
/-- An argument. -/
theorem arg_rep (hT : TypesOK P T) {l : List TypeId} (hl : closedT T l = true) {t : TypeId} (ht : t ∈ l) {v : Value} {d : DataW H} {ps : List MemPlace} (hrow : ∀ ty, T t = some ty → (ty.row = true → ∃ cs, v = .agg cs) ∧ (ty.row = false → v.cells = #[v]))
    (hd : DataW.Trod enc P w base spare held t v d ps) : ∃ n x, Fits T n t (V.cells x) ∧ RepV (immG T) w x v ∧ ∀ ty, T t = some ty → x = mkEl ty.row (V.cells x) := by
  obtain ⟨fuel, hf⟩ := hd
  obtain ⟨xs, h1, h2, h3⟩ := trod_rep hT hl fuel t _ _ ht hf
  cases hTt : T t with
  | none => cases fuel <;> simp [Fits, hTt] at h2
  | some ty =>
  have h3 := h3 ty hTt
  obtain ⟨r1, r2⟩ := hrow ty hTt
  cases hr : ty.row with
  | true =>
    obtain ⟨cs, rfl⟩ := r1 hr
    refine ⟨fuel, .agg xs, h2, .agg xs cs (by rw [h1.len]; rfl) fun k y hk => ?_, fun ty' e => by cases e; rw [hr]; rfl⟩
    have := h1.rep k y hk
    simpa [Value.cells, List.getD_eq_getElem?_getD, Array.getD_eq_getD_getElem?] using this
  | false =>
    have hv := r2 hr
    rw [hv] at h1 h3
    have hl1 := h1.len
    simp at hl1
    match xs, hl1 with
    | [x], _ =>
      have ho := h1.one x (by simp)
      have hc : V.cells x = [x] := by cases x <;> first | rfl | cases ho
      exact ⟨fuel, x, by rw [hc]; exact h2, by simpa using h1.rep 0 x rfl, fun ty' e => by cases e; rw [hr, hc]; rfl⟩
end
end Go.Proofs.YtahemenhcoedgaaDoor.En

/- Conditions as plain data; the budget of the statements. -/
namespace Go.Proofs.YtahemenhcoedgaaDoor.En
open Go
set_option linter.unusedVariables false
/-- A list of conditions: the first one's operation, number and kids, and the rest of the list. -/
inductive Cl where
  | nil
  | cons (op n : Int) (kids : Cl) (rest : Cl)
  deriving DecidableEq
namespace Cl
def len : Cl → Nat
  | nil => 0
  | cons _ _ _ r => r.len + 1
def nodes : Cl → Nat
  | nil => 0
  | cons _ _ k r => k.nodes + r.nodes + 1
def enc : Cl → List V
  | nil => []
  | cons o n k r => .agg [.int .i64 o, .int .i64 n, .sl 24 k.enc] :: r.enc
def wf : Cl → Prop
  | nil => True
  | cons o n k r => (-9223372036854775808 ≤ o ∧ o ≤ 9223372036854775807) ∧ (-9223372036854775808 ≤ n ∧ n ≤ 9223372036854775807) ∧ k.len ≤ 9223372036854775807 ∧ k.wf ∧ r.wf
theorem enc_len : ∀ l : Cl, l.enc.length = l.len
  | nil => rfl
  | cons o n k r => by simp [enc, len, enc_len r]
theorem len_le : ∀ l : Cl, l.len ≤ l.nodes
  | nil => Nat.le_refl _
  | cons o n k r => by have := len_le r; simp only [len, nodes]; omega
end Cl
/-- The budget behind a list's nodes. -/
def lfl : Cl → Int → Int
  | .nil, b => b
  | .cons _ _ k r, b => if b < 0 then b else lfl r (lfl k (b - 1))
theorem lfl_le : ∀ (l : Cl) (b : Int), -1 ≤ b → -1 ≤ lfl l b ∧ lfl l b ≤ b
  | .nil, b, h => ⟨h, Int.le_refl _⟩
  | .cons _ _ k r, b, h => by
    unfold lfl
    split
    · omega
    · have h1 := lfl_le k (b - 1) (by omega)
      have h2 := lfl_le r _ h1.1
      omega
theorem lfl_neg (l : Cl) : lfl l (-1) = -1 := by have := lfl_le l (-1) (by omega); omega
theorem lfl_nodes : ∀ (l : Cl) (b : Int), 0 ≤ b → ((l.nodes : Int) ≤ b → lfl l b = b - l.nodes) ∧ (b < l.nodes → lfl l b = -1)
  | .nil, b, h => ⟨fun _ => by simp [lfl, Cl.nodes], fun h' => by simp [Cl.nodes] at h'; omega⟩
  | .cons _ _ k r, b, h => by
    unfold lfl
    simp only [Cl.nodes]
    rw [if_neg (by omega)]
    by_cases hb : b - 1 < 0
    · have e : b - 1 = -1 := by omega
      rw [e, lfl_neg, lfl_neg]; exact ⟨fun _ => by omega, fun _ => rfl⟩
    · obtain ⟨h1, h2⟩ := lfl_nodes k (b - 1) (by omega)
      by_cases hk : (k.nodes : Int) ≤ b - 1
      · rw [h1 hk]
        obtain ⟨h3, h4⟩ := lfl_nodes r (b - 1 - k.nodes) (by omega)
        exact ⟨fun _ => by rw [h3 (by omega)]; omega, fun _ => h4 (by omega)⟩
      · rw [h2 (by omega), lfl_neg]; exact ⟨fun _ => by omega, fun _ => rfl⟩
theorem left_loop {R : Type} (N : Nat) (f : Int → Int → List V → Int → Option Int) (n : Nat) (hf : ∀ (o m : Int) (k : Cl) (b : Int), k.nodes < n → k.wf → k.len ≤ 9223372036854775807 → 0 ≤ b → b ≤ 200 → f o m k.enc b = some (lfl k (b - 1))) (x y : Int) (K : Int → Option R) :
    ∀ (l : Cl) (pre : List V) (t : Nat) (b : Int), l.len < t → l.nodes ≤ n → l.wf → pre.length + l.len ≤ 9223372036854775807 → -1 ≤ b → b ≤ 200 →
      S_lleft_3 N f x y (pre ++ l.enc) t b (pre.length : Int) K = K (lfl l b)
  | .nil, pre, 0, b, ht, _, _, _, _, _ => by simp [Cl.len] at ht
  | .nil, pre, t + 1, b, ht, _, _, _, _, _ => by
    unfold S_lleft_3 F_lleft_3
    simp [Cl.enc, br, lfl]
  | .cons o m k r, pre, 0, b, ht, _, _, _, _, _ => by simp [Cl.len] at ht
  | .cons o m k r, pre, t + 1, b, ht, hn, hw, hl, hb1, hb2 => by
    simp only [Cl.len, Cl.nodes] at ht hn hl
    obtain ⟨_, _, hk1, hk2, hr⟩ := hw
    have ih := left_loop N f n hf x y K r (pre ++ [.agg [.int .i64 o, .int .i64 m, .sl 24 k.enc]]) t
    have e1 : pre ++ [V.agg [.int .i64 o, .int .i64 m, .sl 24 k.enc]] ++ r.enc = pre ++ .agg [.int .i64 o, .int .i64 m, .sl 24 k.enc] :: r.enc := by simp
    have e2 : ((pre ++ [V.agg [.int .i64 o, .int .i64 m, .sl 24 k.enc]]).length : Int) = (pre.length : Int) + 1 := by simp
    rw [e1, e2] at ih
    unfold S_lleft_3 F_lleft_3 lfl
    have h1 : (pre.length : Int) < ((pre ++ V.agg [.int .i64 o, .int .i64 m, .sl 24 k.enc] :: r.enc).length : Int) := by simp; omega
    have h2 : (0 : Int) ≤ pre.length := by omega
    have h3 : IntKind.i64.wrap ((pre.length : Int) + 1) = (pre.length : Int) + 1 := w64 (by omega) (by omega)
    simp only [Cl.enc, br_t, br_f, br_dec, br_not, br_and, br_or, bnd1_mk, bnd2_mk, bnd3_mk, bnd4_mk, bnd5_mk, at_zero, at_succ, at_mid, unInt_mk, unBool_mk, unStr_mk, unBytes_mk, unSl_mk, unAgg_mk, unCons_mk, unNil_mk, h1, h2, if_true, Int.toNat_natCast]
    by_cases c1 : b < 0
    · rw [if_pos c1, if_neg (by omega)]
    · rw [if_neg c1, if_pos (by omega)]
      rw [hf o m k b (by omega) hk2 hk1 (by omega) hb2, bnd1_mk, h3]
      have hle := lfl_le k (b - 1) (by omega)
      exact ih _ (by omega) (by omega) hr (by simp; omega) (by omega) (by omega)
/-- left of a condition. -/
theorem left_ok (N : Nat) : ∀ (n : Nat) (o m : Int) (k : Cl) (b : Int), n ≤ N → k.nodes < n → k.wf → k.len ≤ 9223372036854775807 → 0 ≤ b → b ≤ 200 → s_lleft N n o m k.enc b = some (lfl k (b - 1))
  | 0, o, m, k, b, _, h, _, _, _, _ => absurd h (Nat.not_lt_zero _)
  | n + 1, o, m, k, b, hN, h, hw, hl, h0, h1 => by
    unfold s_lleft B_lleft
    have hwr : IntKind.i64.wrap (b - 1) = b - 1 := w64 (by omega) (by omega)
    have hln := Cl.len_le k
    rw [hwr]
    exact left_loop N (s_lleft N n) n (fun o m k b a1 a2 a3 a4 a5 => left_ok N n o m k b (by omega) a1 a2 a3 a4 a5) o m _ k [] N (b - 1) (by omega) (by omega) hw (by simpa using hl) (by omega) (by omega)
end Go.Proofs.YtahemenhcoedgaaDoor.En

/- Which conditions are valid: the reference. -/
namespace Go.Proofs.YtahemenhcoedgaaDoor.En
open Go
set_option linter.unusedVariables false
/-- All of the list are valid. -/
def vL : Cl → Bool
  | .nil => true
  | .cons o m k r => (if o = 0 ∨ o = 1 then decide (m = 0) && decide (k.len = 0) else if o = 2 ∨ o = 3 then decide (1 ≤ m) && decide (m ≤ 8) && decide (k.len = 0)
      else if o = 4 then decide (1 ≤ m) && decide (m ≤ 5) && decide (k.len = 0) else if o = 5 then decide (1 ≤ m) && decide (bitsI BinOp.and IntKind.i64 51 m = m) && decide (k.len = 0)
      else if o = 6 ∨ o = 7 then decide (m = 0) && !decide (k.len = 0) && vL k else false) && vL r
def vC (o m : Int) (k : Cl) : Bool := vL (.cons o m k .nil)
theorem vL_cons (o m : Int) (k r : Cl) : vL (.cons o m k r) = (vC o m k && vL r) := by
  show _ = (vL (.cons o m k .nil) && vL r)
  simp only [vL, Bool.and_true]
theorem qvalid_loop {R : Type} (N : Nat) (f : Int → Int → List V → Option Bool) (n : Nat) (hf : ∀ (o m : Int) (k : Cl), k.nodes < n → k.wf → k.len ≤ 9223372036854775807 → f o m k.enc = some (vC o m k)) (x y : Int) (K0 : Bool → Option R) (K1 : Option R) :
    ∀ (l : Cl) (pre : List V) (t : Nat), l.len < t → l.nodes ≤ n → l.wf → pre.length + l.len ≤ 9223372036854775807 →
      S_qvalid_18 N f x y (pre ++ l.enc) t (pre.length : Int) K0 K1 = if vL l then K1 else K0 false
  | .nil, pre, 0, ht, _, _, _ => by simp [Cl.len] at ht
  | .nil, pre, t + 1, ht, _, _, _ => by
    unfold S_qvalid_18 F_qvalid_18
    simp [Cl.enc, br, vL]
  | .cons o m k r, pre, 0, ht, _, _, _ => by simp [Cl.len] at ht
  | .cons o m k r, pre, t + 1, ht, hn, hw, hl => by
    simp only [Cl.len, Cl.nodes] at ht hn hl
    obtain ⟨_, _, hk1, hk2, hr⟩ := hw
    have ih := qvalid_loop N f n hf x y K0 K1 r (pre ++ [.agg [.int .i64 o, .int .i64 m, .sl 24 k.enc]]) t
    have e1 : pre ++ [V.agg [.int .i64 o, .int .i64 m, .sl 24 k.enc]] ++ r.enc = pre ++ .agg [.int .i64 o, .int .i64 m, .sl 24 k.enc] :: r.enc := by simp
    have e2 : ((pre ++ [V.agg [.int .i64 o, .int .i64 m, .sl 24 k.enc]]).length : Int) = (pre.length : Int) + 1 := by simp
    rw [e1, e2] at ih
    unfold S_qvalid_18 F_qvalid_18
    have h1 : (pre.length : Int) < ((pre ++ V.agg [.int .i64 o, .int .i64 m, .sl 24 k.enc] :: r.enc).length : Int) := by simp; omega
    have h2 : (0 : Int) ≤ pre.length := by omega
    have h3 : IntKind.i64.wrap ((pre.length : Int) + 1) = (pre.length : Int) + 1 := w64 (by omega) (by omega)
    simp only [Cl.enc, br_t, br_f, br_dec, br_not, br_and, br_or, bnd1_mk, bnd2_mk, bnd3_mk, bnd4_mk, bnd5_mk, at_zero, at_succ, at_mid, unInt_mk, unBool_mk, unStr_mk, unBytes_mk, unSl_mk, unAgg_mk, unCons_mk, unNil_mk, h1, h2, if_true, Int.toNat_natCast]
    rw [hf o m k (by omega) hk2 hk1, bnd1_mk, h3, vL_cons, ih (by omega) (by omega) hr (by simp; omega)]
    cases vC o m k <;> simp [br]
/-- The reference's valid. -/
theorem qvalid_ok (N : Nat) : ∀ (n : Nat) (o m : Int) (k : Cl), n ≤ N → k.nodes < n → k.wf → k.len ≤ 9223372036854775807 → s_qvalid N n o m k.enc = some (vC o m k)
  | 0, o, m, k, _, h, _, _ => absurd h (Nat.not_lt_zero _)
  | n + 1, o, m, k, hN, h, hw, hl => by
    unfold s_qvalid B_qvalid
    have hln := Cl.len_le k
    have hL : S_qvalid_18 N (s_qvalid N n) o m k.enc N 0 (fun b => some b) (some true) = if vL k then some true else some false :=
      qvalid_loop N (s_qvalid N n) n (fun o m k a1 a2 a3 => qvalid_ok N n o m k (by omega) a1 a2 a3) o m _ _ k [] N (by omega) (by omega) hw (by simpa using hl)
    have hz : ((k.enc.length : Int) = 0) = (k.len = 0) := by rw [Cl.enc_len]; exact propext (by omega)
    simp only [hL, hz, s_qhas, bnd1_mk, br_dec, br_not, vC, vL, Bool.and_true]
    by_cases h0 : o = 0
    · subst h0; by_cases hm : m = 0 <;> simp [hm]
    by_cases h1 : o = 1
    · subst h1; by_cases hm : m = 0 <;> simp [hm]
    by_cases h2 : o = 2
    · subst h2; by_cases ha : 1 ≤ m <;> by_cases hb : m ≤ 8 <;> simp [ha, hb]
    by_cases h3 : o = 3
    · subst h3; by_cases ha : 1 ≤ m <;> by_cases hb : m ≤ 8 <;> simp [ha, hb]
    by_cases h4 : o = 4
    · subst h4; by_cases ha : 1 ≤ m <;> by_cases hb : m ≤ 5 <;> simp [ha, hb]
    by_cases h5 : o = 5
    · subst h5; by_cases ha : 1 ≤ m <;> by_cases hb : bitsI BinOp.and IntKind.i64 51 m = m <;> simp [ha, hb]
    by_cases h6 : o = 6
    · subst h6; by_cases hm : m = 0 <;> by_cases hk : k.len = 0 <;> cases hv : vL k <;> simp [hm, hk]
    by_cases h7 : o = 7
    · subst h7; by_cases hm : m = 0 <;> by_cases hk : k.len = 0 <;> cases hv : vL k <;> simp [hm, hk]
    simp [h0, h1, h2, h3, h4, h5, h6, h7]
end Go.Proofs.YtahemenhcoedgaaDoor.En

/- Words for security statuses: bits as vectors. No program in sight. -/
namespace Go.Proofs.YtahemenhcoedgaaDoor.En
open Go
set_option linter.unusedVariables false
def bv (a : Int) : BitVec 64 := BitVec.ofInt 64 a
theorem bv_toNat (a : Int) : (bv a).toNat = (a % 18446744073709551616).toNat := ofInt_toNat64 a
theorem bv_wrap (n : Int) : bv (IntKind.i64.wrap n) = bv n := by
  apply BitVec.eq_of_toNat_eq
  rw [bv_toNat, bv_toNat, IntKind.wrap_i64]; omega
theorem bv_nat (x : BitVec 64) : bv (x.toNat : Int) = x := by
  apply BitVec.eq_of_toNat_eq
  have := x.isLt
  rw [bv_toNat]; omega
theorem bv_inj {a b : Int} (ha : -9223372036854775808 ≤ a ∧ a ≤ 9223372036854775807) (hb : -9223372036854775808 ≤ b ∧ b ≤ 9223372036854775807) (h : bv a = bv b) : a = b := by
  have := congrArg BitVec.toNat h
  rw [bv_toNat, bv_toNat] at this; omega
theorem wrap_range (n : Int) : -9223372036854775808 ≤ IntKind.i64.wrap n ∧ IntKind.i64.wrap n ≤ 9223372036854775807 := by
  rw [IntKind.wrap_i64]; omega
theorem bv_and (a b : Int) : bv (bitsI .and .i64 a b) = bv a &&& bv b := by
  show bv (IntKind.i64.wrap ((bv a &&& bv b).toNat : Int)) = _
  rw [bv_wrap, bv_nat]
theorem bv_or (a b : Int) : bv (bitsI .or .i64 a b) = bv a ||| bv b := by
  show bv (IntKind.i64.wrap ((bv a ||| bv b).toNat : Int)) = _
  rw [bv_wrap, bv_nat]
theorem and_range (a b : Int) : -9223372036854775808 ≤ bitsI .and .i64 a b ∧ bitsI .and .i64 a b ≤ 9223372036854775807 := wrap_range _
/-- All bits of y are in x. -/
def hasB (x y : BitVec 64) : Bool := decide (x &&& y = y)
theorem has_iff (a b : Int) (hb : -9223372036854775808 ≤ b ∧ b ≤ 9223372036854775807) : decide (bitsI .and .i64 a b = b) = hasB (bv a) (bv b) := by
  unfold hasB
  rw [decide_eq_decide]
  constructor
  · intro h; rw [← bv_and, h]
  · intro h; exact bv_inj (and_range a b) hb (by rw [bv_and, h])
theorem hasB_iff (x y : BitVec 64) : hasB x y = true ↔ ∀ i, i < 64 → y.getLsbD i = true → x.getLsbD i = true := by
  unfold hasB
  rw [decide_eq_true_iff]
  constructor
  · intro h i hi hy
    rw [← h, BitVec.getLsbD_and] at hy
    simp at hy; exact hy.1
  · intro h
    apply BitVec.eq_of_getLsbD_eq
    intro i hi
    rw [BitVec.getLsbD_and]
    cases hy : y.getLsbD i with
    | false => simp
    | true => simp [h i hi hy]
theorem hasB_refl (x : BitVec 64) : hasB x x = true := by rw [hasB_iff]; intros; assumption
theorem hasB_zero (x : BitVec 64) : hasB x 0#64 = true := by rw [hasB_iff]; intro i _ h; simp at h
theorem hasB_trans {x y z : BitVec 64} (h : hasB x y = true) (k : hasB y z = true) : hasB x z = true := by
  rw [hasB_iff] at *
  exact fun i hi hz => h i hi (k i hi hz)
theorem hasB_or (x y z : BitVec 64) : hasB x (y ||| z) = (hasB x y && hasB x z) := by
  rw [Bool.eq_iff_iff, Bool.and_eq_true, hasB_iff, hasB_iff, hasB_iff]
  constructor
  · intro h
    exact ⟨fun i hi hy => h i hi (by rw [BitVec.getLsbD_or, hy]; rfl), fun i hi hy => h i hi (by rw [BitVec.getLsbD_or, hy]; simp)⟩
  · rintro ⟨h, k⟩ i hi hy
    rw [BitVec.getLsbD_or, Bool.or_eq_true] at hy
    rcases hy with hy | hy
    · exact h i hi hy
    · exact k i hi hy
theorem hasB_or_left (x y : BitVec 64) : hasB (x ||| y) x = true := by rw [hasB_iff]; intro i _ h; rw [BitVec.getLsbD_or, h]; rfl
theorem hasB_or_right (x y : BitVec 64) : hasB (x ||| y) y = true := by rw [hasB_iff]; intro i _ h; rw [BitVec.getLsbD_or, h]; simp
/-- A security status: PINs, keys, state, level. -/
structure Sec where
  p : Int
  k : Int
  s : Int
  l : Int
def Sec.enc (x : Sec) : V := .agg [.int .i64 x.p, .int .i64 x.k, .int .i64 x.s, .int .i64 x.l]
/-- x has at most the rights of y. -/
def Sec.le (x y : Sec) : Prop := hasB (bv y.p) (bv x.p) = true ∧ hasB (bv y.k) (bv x.k) = true ∧ (x.s ≤ 0 ∨ x.s ≤ y.s) ∧ hasB (bv y.l) (bv x.l) = true
theorem Sec.le_refl (x : Sec) : x.le x := ⟨hasB_refl _, hasB_refl _, .inr (Int.le_refl _), hasB_refl _⟩
theorem Sec.le_trans {x y z : Sec} (h : x.le y) (k : y.le z) : x.le z := by
  obtain ⟨a, b, c, d⟩ := h
  obtain ⟨a', b', c', d'⟩ := k
  exact ⟨hasB_trans a' a, hasB_trans b' b, by omega, hasB_trans d' d⟩
def Sec.join (x y : Sec) : Sec := ⟨bitsI .or .i64 x.p y.p, bitsI .or .i64 x.k y.k, max x.s y.s, bitsI .or .i64 x.l y.l⟩
theorem Sec.join_le {x y z : Sec} (h : x.le z) (k : y.le z) : (x.join y).le z := by
  obtain ⟨a, b, c, d⟩ := h
  obtain ⟨a', b', c', d'⟩ := k
  refine ⟨?_, ?_, ?_, ?_⟩
  · show hasB _ (bv (bitsI .or .i64 x.p y.p)) = true
    rw [bv_or, hasB_or, a, a']; rfl
  · show hasB _ (bv (bitsI .or .i64 x.k y.k)) = true
    rw [bv_or, hasB_or, b, b']; rfl
  · show max x.s y.s ≤ 0 ∨ max x.s y.s ≤ z.s
    omega
  · show hasB _ (bv (bitsI .or .i64 x.l y.l)) = true
    rw [bv_or, hasB_or, d, d']; rfl
theorem Sec.le_join_left (x y : Sec) : x.le (x.join y) := by
  refine ⟨?_, ?_, .inr (Int.le_max_left _ _), ?_⟩
  · show hasB (bv (bitsI .or .i64 x.p y.p)) _ = true
    rw [bv_or]; exact hasB_or_left _ _
  · show hasB (bv (bitsI .or .i64 x.k y.k)) _ = true
    rw [bv_or]; exact hasB_or_left _ _
  · show hasB (bv (bitsI .or .i64 x.l y.l)) _ = true
    rw [bv_or]; exact hasB_or_left _ _
theorem Sec.le_join_right (x y : Sec) : y.le (x.join y) := by
  refine ⟨?_, ?_, .inr (Int.le_max_right _ _), ?_⟩
  · show hasB (bv (bitsI .or .i64 x.p y.p)) _ = true
    rw [bv_or]; exact hasB_or_right _ _
  · show hasB (bv (bitsI .or .i64 x.k y.k)) _ = true
    rw [bv_or]; exact hasB_or_right _ _
  · show hasB (bv (bitsI .or .i64 x.l y.l)) _ = true
    rw [bv_or]; exact hasB_or_right _ _
/-- 2^n, n from 0 to 62. -/
def p2 (n : Nat) : Int := ((2 ^ n : Nat) : Int)
theorem p2_range {n : Nat} (h : n ≤ 62) : 0 < p2 n ∧ p2 n ≤ 4611686018427387904 := by
  have hp : (2 ^ n : Nat) ≤ 2 ^ 62 := Nat.pow_le_pow_right (by omega) h
  have h0 : 0 < 2 ^ n := Nat.pos_of_ne_zero (by simp)
  unfold p2; omega
theorem shl1 {n : Nat} (h : n ≤ 62) : shlI .i64 1 (n : Int) = p2 n := by
  have := p2_range h
  show IntKind.i64.wrap (1 * 2 ^ (min ((n : Int).toNat) 64)) = _
  rw [Int.toNat_natCast, Nat.min_eq_left (by omega), Int.one_mul]
  have e : (2 : Int) ^ n = p2 n := by unfold p2; push_cast; rfl
  rw [e, w64 (by omega) (by omega)]
theorem shr_n (a : Int) {n : Nat} (h : n ≤ 62) : shrI .i64 a (n : Int) = a / p2 n := by
  have := p2_range h
  show a.fdiv (2 ^ (min ((n : Int).toNat) 64)) = _
  rw [Int.toNat_natCast, Nat.min_eq_left (by omega)]
  have e : (2 : Int) ^ n = p2 n := by unfold p2; push_cast; rfl
  rw [e, fdiv_pos _ _ (by omega)]
theorem and1 (a : Int) : bitsI .and .i64 a 1 = a % 2 := and_mask a 1 (by omega)
/-- The program's test of a bit is the reference's. -/
theorem bit_test (a : Int) {n : Nat} (h : n ≤ 62) : decide (bitsI .and .i64 (shrI .i64 a (n : Int)) 1 = 1) = hasB (bv a) (bv (p2 n)) := by
  have h2 := p2_range h
  rw [← has_iff a (p2 n) (by omega), shr_n a h, and1, decide_eq_decide]
  have := and_bit a n h
  show _ ↔ bitsI .and .i64 a ((2 ^ n : Nat) : Int) = ((2 ^ n : Nat) : Int)
  rw [this]
  have e : ((2 ^ n : Nat) : Int) = p2 n := rfl
  rw [e]
  have h3 : a / p2 n % 2 = 0 ∨ a / p2 n % 2 = 1 := by omega
  rcases h3 with h3 | h3 <;> rw [h3] <;> simp <;> omega
/-- One condition without kids, given its operation and number. -/
def satB (x : Sec) (o m : Int) : Bool :=
  if o = 1 then true else if o = 2 then hasB (bv x.p) (bv (p2 m.toNat)) else if o = 3 then hasB (bv x.k) (bv (p2 m.toNat)) else if o = 4 then decide (m ≤ x.s) else if o = 5 then hasB (bv x.l) (bv m) else false
theorem satB_mono {x y : Sec} (h : x.le y) (o m : Int) (hm : o = 4 → 1 ≤ m) (hs : satB x o m = true) : satB y o m = true := by
  obtain ⟨a, b, c, d⟩ := h
  unfold satB at *
  split at hs
  · rename_i c1; rw [if_pos c1]
  rename_i c1; rw [if_neg c1]
  split at hs
  · rename_i c2; rw [if_pos c2]; exact hasB_trans a hs
  rename_i c2; rw [if_neg c2]
  split at hs
  · rename_i c3; rw [if_pos c3]; exact hasB_trans b hs
  rename_i c3; rw [if_neg c3]
  split at hs
  · rename_i c4; rw [if_pos c4]
    have := hm c4
    simp only [decide_eq_true_eq] at *
    omega
  rename_i c4; rw [if_neg c4]
  split at hs
  · rename_i c5; rw [if_pos c5]; exact hasB_trans d hs
  · cases hs
end Go.Proofs.YtahemenhcoedgaaDoor.En

/- Which conditions imply which: plain. -/
namespace Go.Proofs.YtahemenhcoedgaaDoor.En
open Go
set_option linter.unusedVariables false
/-- All of the list are satisfied; one of the list is satisfied. -/
def sq (x : Sec) : Cl → Bool → Bool
  | .nil, all => all
  | .cons o m k r, all => bif all then (if o = 6 then sq x k true else if o = 7 then sq x k false else satB x o m) && sq x r true else (if o = 6 then sq x k true else if o = 7 then sq x k false else satB x o m) || sq x r false
def satC (x : Sec) (o m : Int) (k : Cl) : Bool := if o = 6 then sq x k true else if o = 7 then sq x k false else satB x o m
theorem sq_cons (x : Sec) (o m : Int) (k r : Cl) (all : Bool) : sq x (.cons o m k r) all = bif all then satC x o m k && sq x r true else satC x o m k || sq x r false := by
  conv => lhs; unfold sq
  rfl
/-- What is known of a valid condition. -/
theorem vC_leaf {o m : Int} {k : Cl} (h : vC o m k = true) : (o = 0 ∧ m = 0 ∧ k = .nil) ∨ (o = 1 ∧ m = 0 ∧ k = .nil) ∨ (o = 2 ∧ 1 ≤ m ∧ m ≤ 8 ∧ k = .nil) ∨ (o = 3 ∧ 1 ≤ m ∧ m ≤ 8 ∧ k = .nil) ∨ (o = 4 ∧ 1 ≤ m ∧ m ≤ 5 ∧ k = .nil) ∨ (o = 5 ∧ 1 ≤ m ∧ bitsI BinOp.and IntKind.i64 51 m = m ∧ k = .nil) ∨ ((o = 6 ∨ o = 7) ∧ m = 0 ∧ k ≠ .nil ∧ vL k = true) := by
  have hnil : ∀ k : Cl, k.len = 0 → k = .nil := by intro k; cases k <;> simp [Cl.len]
  simp only [vC, vL, Bool.and_true] at h
  by_cases h0 : o = 0 ∨ o = 1
  · rw [if_pos h0] at h
    simp only [Bool.and_eq_true, decide_eq_true_eq] at h
    have := hnil k h.2
    rcases h0 with h0 | h0
    · exact .inl ⟨h0, h.1, this⟩
    · exact .inr (.inl ⟨h0, h.1, this⟩)
  rw [if_neg h0] at h
  by_cases h2 : o = 2 ∨ o = 3
  · rw [if_pos h2] at h
    simp only [Bool.and_eq_true, decide_eq_true_eq] at h
    have := hnil k h.2
    rcases h2 with h2 | h2
    · exact .inr (.inr (.inl ⟨h2, h.1.1, h.1.2, this⟩))
    · exact .inr (.inr (.inr (.inl ⟨h2, h.1.1, h.1.2, this⟩)))
  rw [if_neg h2] at h
  by_cases h4 : o = 4
  · rw [if_pos h4] at h
    simp only [Bool.and_eq_true, decide_eq_true_eq] at h
    exact .inr (.inr (.inr (.inr (.inl ⟨h4, h.1.1, h.1.2, hnil k h.2⟩))))
  rw [if_neg h4] at h
  by_cases h5 : o = 5
  · rw [if_pos h5] at h
    simp only [Bool.and_eq_true, decide_eq_true_eq] at h
    exact .inr (.inr (.inr (.inr (.inr (.inl ⟨h5, h.1.1, h.1.2, hnil k h.2⟩)))))
  rw [if_neg h5] at h
  by_cases h6 : o = 6 ∨ o = 7
  · rw [if_pos h6] at h
    simp only [Bool.and_eq_true, decide_eq_true_eq, Bool.not_eq_true', decide_eq_false_iff_not] at h
    exact .inr (.inr (.inr (.inr (.inr (.inr ⟨h6, h.1.1, fun e => h.1.2 (by rw [e]; rfl), h.2⟩)))))
  · rw [if_neg h6] at h; cases h
theorem vC_four {o m : Int} {k : Cl} (h : vC o m k = true) (h4 : o = 4) : 1 ≤ m := by
  rcases vC_leaf h with h | h | h | h | h | h | h <;> omega
/-- More rights never make a condition false. -/
theorem sq_mono {x y : Sec} (h : x.le y) : ∀ (l : Cl) (all : Bool), vL l = true → sq x l all = true → sq y l all = true
  | .nil, all, _, hs => hs
  | .cons o m k r, all, hv, hs => by
    rw [vL_cons, Bool.and_eq_true] at hv
    rw [sq_cons] at hs ⊢
    have hC : satC x o m k = true → satC y o m k = true := by
      unfold satC
      intro hc
      by_cases h6 : o = 6
      · rw [if_pos h6] at hc ⊢
        have : vL k = true := by rcases vC_leaf hv.1 with h | h | h | h | h | h | h <;> first | omega | exact h.2.2.2
        exact sq_mono h k true this hc
      rw [if_neg h6] at hc ⊢
      by_cases h7 : o = 7
      · rw [if_pos h7] at hc ⊢
        have : vL k = true := by rcases vC_leaf hv.1 with h | h | h | h | h | h | h <;> first | omega | exact h.2.2.2
        exact sq_mono h k false this hc
      rw [if_neg h7] at hc ⊢
      exact satB_mono h o m (vC_four hv.1) hc
    cases all with
    | true =>
      simp only [cond_true, Bool.and_eq_true] at hs ⊢
      exact ⟨hC hs.1, sq_mono h r true hv.2 hs.2⟩
    | false =>
      simp only [cond_false, Bool.or_eq_true] at hs ⊢
      rcases hs with hs | hs
      · exact .inl (hC hs)
      · exact .inr (sq_mono h r false hv.2 hs)
theorem satC_mono {x y : Sec} (h : x.le y) {o m : Int} {k : Cl} (hv : vC o m k = true) (hs : satC x o m k = true) : satC y o m k = true := by
  have := sq_mono h (.cons o m k .nil) true hv (by rw [sq_cons]; simp [hs, sq])
  rw [sq_cons] at this
  simpa [sq] using this
/-! The program's statuses -/
instance : DecidableEq Sec := fun x y => by
  cases x with | mk a b c d => cases y with | mk e f g h =>
  exact decidable_of_iff (a = e ∧ b = f ∧ c = g ∧ d = h) (by simp)
def addS (next : List Sec) (s : Sec) : List Sec := if s ∈ next then next else next ++ [s]
def prod1 (x : Sec) : List Sec → List Sec → List Sec
  | next, [] => next
  | next, y :: ys => prod1 x (addS next (x.join y)) ys
def prod (ys : List Sec) : List Sec → List Sec → List Sec
  | next, [] => next
  | next, x :: xs => prod ys (prod1 x next ys) xs
def zeroS : Sec := ⟨0, 0, 0, 0⟩
def baseS (o m : Int) : List Sec :=
  if o = 1 then [zeroS] else if o = 2 then [⟨p2 m.toNat, 0, 0, 0⟩] else if o = 3 then [⟨0, p2 m.toNat, 0, 0⟩] else if o = 4 then [⟨0, 0, m, 0⟩] else if o = 5 then [⟨0, 0, 0, m⟩] else []
def lq : Cl → Bool → List Sec → List Sec
  | .nil, _, out => out
  | .cons o m k r, all, out => lq r all (bif all then prod out [] (if o = 6 then lq k true [zeroS] else if o = 7 then lq k false [] else baseS o m) else out ++ (if o = 6 then lq k true [zeroS] else if o = 7 then lq k false [] else baseS o m))
def lC (o m : Int) (k : Cl) : List Sec := if o = 6 then lq k true [zeroS] else if o = 7 then lq k false [] else baseS o m
theorem lq_cons (o m : Int) (k r : Cl) (all : Bool) (out : List Sec) : lq (.cons o m k r) all out = lq r all (bif all then prod out [] (lC o m k) else out ++ lC o m k) := by
  conv => lhs; unfold lq
  rfl
theorem mem_addS {next : List Sec} {s w : Sec} : w ∈ addS next s ↔ w ∈ next ∨ w = s := by
  unfold addS
  split
  · rename_i h
    exact ⟨.inl, fun h' => h'.elim id fun e => e ▸ h⟩
  · simp
theorem mem_prod1 {x : Sec} {w : Sec} : ∀ (ys next : List Sec), w ∈ prod1 x next ys ↔ w ∈ next ∨ ∃ y ∈ ys, w = x.join y
  | [], next => by simp [prod1]
  | y :: ys, next => by
    unfold prod1
    rw [mem_prod1 ys, mem_addS]
    simp only [List.mem_cons, exists_eq_or_imp, or_assoc]
theorem mem_prod {ys : List Sec} {w : Sec} : ∀ (xs next : List Sec), w ∈ prod ys next xs ↔ w ∈ next ∨ ∃ x ∈ xs, ∃ y ∈ ys, w = x.join y
  | [], next => by simp [prod]
  | x :: xs, next => by
    unfold prod
    rw [mem_prod xs, mem_prod1]
    simp only [List.mem_cons, exists_eq_or_imp, or_assoc]
theorem len_addS (next : List Sec) (s : Sec) : (addS next s).length ≤ next.length + 1 := by
  unfold addS; split <;> simp
theorem len_prod1 (x : Sec) : ∀ (ys next : List Sec), (prod1 x next ys).length ≤ next.length + ys.length
  | [], next => by simp [prod1]
  | y :: ys, next => by
    unfold prod1
    have := len_prod1 x ys (addS next (x.join y))
    have := len_addS next (x.join y)
    simp only [List.length_cons]; omega
theorem len_prod (ys : List Sec) : ∀ (xs next : List Sec), (prod ys next xs).length ≤ next.length + xs.length * ys.length
  | [], next => by simp [prod]
  | x :: xs, next => by
    unfold prod
    have := len_prod ys xs (prod1 x next ys)
    have := len_prod1 x ys next
    rw [List.length_cons, Nat.succ_mul]; omega
theorem two_add (a b : Nat) : 2 ^ a + 2 ^ b ≤ 2 ^ (a + b + 1) := by
  have h1 : 2 ^ a ≤ 2 ^ (a + b) := Nat.pow_le_pow_right (by omega) (by omega)
  have h2 : 2 ^ b ≤ 2 ^ (a + b) := Nat.pow_le_pow_right (by omega) (by omega)
  rw [Nat.pow_succ]; omega
theorem len_base (o m : Int) : (baseS o m).length ≤ 1 := by
  unfold baseS
  (repeat' split) <;> simp
theorem len_lq : ∀ (l : Cl) (out : List Sec), (lq l true out).length ≤ out.length * 2 ^ l.nodes ∧ (lq l false out).length ≤ out.length + 2 ^ l.nodes
  | .nil, out => by simp [lq, Cl.nodes]
  | .cons o m k r, out => by
    rw [lq_cons, lq_cons]
    have hk := len_lq k [zeroS]
    have hk2 := len_lq k []
    have hp : 1 ≤ 2 ^ k.nodes := Nat.one_le_two_pow
    have hpr : 1 ≤ 2 ^ r.nodes := Nat.one_le_two_pow
    have hl : (lC o m k).length ≤ 2 ^ k.nodes := by
      unfold lC
      split
      · simpa using hk.1
      split
      · simpa using hk2.2
      · exact Nat.le_trans (len_base o m) hp
    have h1 := (len_lq r (prod out [] (lC o m k))).1
    have h2 := (len_lq r (out ++ lC o m k)).2
    have h3 := len_prod out (lC o m k) []
    constructor
    · simp only [cond_true, Cl.nodes]
      refine Nat.le_trans h1 ?_
      have e : out.length * 2 ^ (k.nodes + r.nodes + 1) = (2 ^ k.nodes * out.length) * 2 ^ r.nodes * 2 := by
        rw [Nat.pow_succ, Nat.pow_add]; simp only [Nat.mul_comm, Nat.mul_left_comm, Nat.mul_assoc]
      rw [e]
      have h4 : (prod out [] (lC o m k)).length ≤ 2 ^ k.nodes * out.length := by
        refine Nat.le_trans h3 ?_
        simp only [List.length_nil, Nat.zero_add]
        exact Nat.mul_le_mul_right _ hl
      have h5 := Nat.mul_le_mul_right (2 ^ r.nodes) h4
      omega
    · simp only [cond_false, Cl.nodes]
      refine Nat.le_trans h2 ?_
      rw [List.length_append]
      have := two_add k.nodes r.nodes
      omega
/-- Every status of the list satisfies it. -/
theorem lq_sat : ∀ (l : Cl) (out : List Sec) (w : Sec), vL l = true → (w ∈ lq l true out → sq w l true = true ∧ ∃ y ∈ out, y.le w) ∧ (w ∈ lq l false out → w ∈ out ∨ sq w l false = true)
  | .nil, out, w, _ => ⟨fun h => ⟨rfl, w, h, w.le_refl⟩, fun h => .inl h⟩
  | .cons o m k r, out, w, hv => by
    rw [vL_cons, Bool.and_eq_true] at hv
    have hC : ∀ x ∈ lC o m k, satC x o m k = true := by
      intro x hx
      unfold lC at hx
      unfold satC
      rcases vC_leaf hv.1 with ⟨rfl, h⟩ | ⟨rfl, h⟩ | ⟨rfl, h⟩ | ⟨rfl, h⟩ | ⟨rfl, h⟩ | ⟨rfl, h⟩ | ⟨rfl | rfl, h1, h2, h3⟩
      · simp [baseS] at hx
      · simp [satB]
      · simp [baseS] at hx; subst hx; simp [satB, hasB_refl]
      · simp [baseS] at hx; subst hx; simp [satB, hasB_refl]
      · simp [baseS] at hx; subst hx; simp [satB]
      · simp [baseS] at hx; subst hx; simp [satB, hasB_refl]
      · rw [if_pos rfl] at hx ⊢
        exact ((lq_sat k _ x h3).1 hx).1
      · rw [if_neg (by omega), if_pos rfl] at hx ⊢
        exact ((lq_sat k _ x h3).2 hx).resolve_left (by simp)
    rw [lq_cons, lq_cons, sq_cons, sq_cons]
    constructor
    · intro h
      obtain ⟨h1, y, hy, hle⟩ := (lq_sat r _ w hv.2).1 h
      simp only [cond_true] at hy ⊢
      rw [mem_prod] at hy
      rcases hy with hy | ⟨x, hx, z, hz, rfl⟩
      · simp at hy
      · refine ⟨?_, z, hz, Sec.le_trans (Sec.le_join_right x z) hle⟩
        rw [h1, Bool.and_true]
        exact satC_mono (Sec.le_trans (Sec.le_join_left x z) hle) hv.1 (hC x hx)
    · intro h
      simp only [cond_false] at h ⊢
      rcases (lq_sat r _ w hv.2).2 h with h | h
      · rcases List.mem_append.1 h with h | h
        · exact .inl h
        · exact .inr (by rw [hC w h]; rfl)
      · exact .inr (by rw [h]; simp)
/-- Every status that satisfies it has the rights of one of the list. -/
theorem lq_dom (z : Sec) : ∀ (l : Cl) (out : List Sec), vL l = true → (sq z l true = true → (∃ w ∈ out, w.le z) → ∃ w ∈ lq l true out, w.le z) ∧ ((sq z l false = true ∨ ∃ w ∈ out, w.le z) → ∃ w ∈ lq l false out, w.le z)
  | .nil, out, _ => ⟨fun _ h => h, fun h => h.resolve_left (by simp [sq])⟩
  | .cons o m k r, out, hv => by
    rw [vL_cons, Bool.and_eq_true] at hv
    have h00 : zeroS.le z := ⟨hasB_zero _, hasB_zero _, .inl (Int.le_refl _), hasB_zero _⟩
    have hC : satC z o m k = true → ∃ w ∈ lC o m k, w.le z := by
      intro hs
      unfold satC at hs
      unfold lC
      rcases vC_leaf hv.1 with ⟨rfl, h⟩ | ⟨rfl, h⟩ | ⟨rfl, h⟩ | ⟨rfl, h⟩ | ⟨rfl, h⟩ | ⟨rfl, h⟩ | ⟨rfl | rfl, h1, h2, h3⟩
      · simp [satB] at hs
      · exact ⟨zeroS, by simp [baseS], h00⟩
      · simp [satB] at hs
        exact ⟨⟨p2 m.toNat, 0, 0, 0⟩, by simp [baseS], hs, hasB_zero _, .inl (Int.le_refl _), hasB_zero _⟩
      · simp [satB] at hs
        exact ⟨⟨0, p2 m.toNat, 0, 0⟩, by simp [baseS], hasB_zero _, hs, .inl (Int.le_refl _), hasB_zero _⟩
      · simp [satB] at hs
        exact ⟨⟨0, 0, m, 0⟩, by simp [baseS], hasB_zero _, hasB_zero _, .inr hs, hasB_zero _⟩
      · simp [satB] at hs
        exact ⟨⟨0, 0, 0, m⟩, by simp [baseS], hasB_zero _, hasB_zero _, .inl (Int.le_refl _), hs⟩
      · rw [if_pos rfl] at hs ⊢
        exact (lq_dom z k [zeroS] h3).1 hs ⟨zeroS, by simp, h00⟩
      · rw [if_neg (by omega), if_pos rfl] at hs ⊢
        exact (lq_dom z k [] h3).2 (.inl hs)
    rw [lq_cons, lq_cons, sq_cons, sq_cons]
    simp only [cond_true, cond_false]
    constructor
    · intro hs ⟨y, hy, hyz⟩
      rw [Bool.and_eq_true] at hs
      obtain ⟨x, hx, hxz⟩ := hC hs.1
      exact (lq_dom z r _ hv.2).1 hs.2 ⟨x.join y, (mem_prod _ _).2 (.inr ⟨x, hx, y, hy, rfl⟩), Sec.join_le hxz hyz⟩
    · intro hs
      refine (lq_dom z r _ hv.2).2 ?_
      rcases hs with hs | ⟨w, hw, hwz⟩
      · rw [Bool.or_eq_true] at hs
        rcases hs with hs | hs
        · obtain ⟨x, hx, hxz⟩ := hC hs
          exact .inr ⟨x, by simp [hx], hxz⟩
        · exact .inl hs
      · exact .inr ⟨w, by simp [hw], hwz⟩
/-- b is satisfied whenever a is. -/
def Imp (o m : Int) (k : Cl) (o' m' : Int) (k' : Cl) : Prop := ∀ x : Sec, satC x o m k = true → satC x o' m' k' = true
theorem lC_imp {o m : Int} {k : Cl} {o' m' : Int} {k' : Cl} (hv : vC o m k = true) (hv' : vC o' m' k' = true) :
    (∀ w ∈ lC o m k, satC w o' m' k' = true) ↔ Imp o m k o' m' k' := by
  have e : ∀ (x : Sec), sq x (.cons o m k .nil) false = satC x o m k := fun x => by rw [sq_cons]; simp [sq]
  have e2 : lq (.cons o m k .nil) false [] = lC o m k := by rw [lq_cons]; simp [lq]
  constructor
  · intro h x hx
    obtain ⟨w, hw, hwx⟩ := (lq_dom x (.cons o m k .nil) [] hv).2 (.inl (by rw [e]; exact hx))
    rw [e2] at hw
    exact satC_mono hwx hv' (h w hw)
  · intro h w hw
    refine h w ?_
    rw [← e]
    exact ((lq_sat (.cons o m k .nil) [] w hv).2 (by rw [e2]; exact hw)).resolve_left (by simp)
end Go.Proofs.YtahemenhcoedgaaDoor.En

/- Which conditions imply which: the reference's trial of all statuses. Plain. -/
namespace Go.Proofs.YtahemenhcoedgaaDoor.En
open Go
set_option linter.unusedVariables false
abbrev At := Int × Int
def addA (l : List At) (a : At) : List At := if a ∈ l then l else l ++ [a]
def lvs (n : Int) : List Int → List At → List At
  | [], l => l
  | b :: bs, l => lvs n bs (bif hasB (bv n) (bv b) then addA l (5, b) else l)
def ownA (o n : Int) (l : List At) : List At := if o = 5 then lvs n [1, 2, 4, 8, 16, 32] l else if o = 2 ∨ o = 3 ∨ o = 4 then addA l (o, n) else l
def atl : Cl → List At → List At
  | .nil, l => l
  | .cons o m k r, l => atl r (ownA o m (atl k l))
theorem mem_addA {l : List At} {a b : At} : b ∈ addA l a ↔ b ∈ l ∨ b = a := by
  unfold addA
  split
  · rename_i h
    exact ⟨.inl, fun h' => h'.elim id fun e => e ▸ h⟩
  · simp
theorem nodup_addA {l : List At} (h : l.Nodup) (a : At) : (addA l a).Nodup := by
  unfold addA
  split
  · exact h
  · rename_i hn
    exact List.nodup_append.2 ⟨h, by simp, fun x hx y hy => by simp at hy; subst hy; intro e; subst e; exact hn hx⟩
theorem mem_lvs {n : Int} {a : At} : ∀ (bs : List Int) (l : List At), a ∈ lvs n bs l ↔ a ∈ l ∨ ∃ b ∈ bs, hasB (bv n) (bv b) = true ∧ a = (5, b)
  | [], l => by simp [lvs]
  | b :: bs, l => by
    unfold lvs
    rw [mem_lvs bs]
    cases h : hasB (bv n) (bv b) with
    | true => simp only [cond_true, mem_addA, List.mem_cons, exists_eq_or_imp, h, true_and, or_assoc]
    | false => simp [h]
theorem nodup_lvs {n : Int} : ∀ (bs : List Int) (l : List At), l.Nodup → (lvs n bs l).Nodup
  | [], l, h => h
  | b :: bs, l, h => by
    unfold lvs
    refine nodup_lvs bs _ ?_
    cases hasB (bv n) (bv b) with
    | true => exact nodup_addA h _
    | false => exact h
theorem nodup_ownA (o n : Int) {l : List At} (h : l.Nodup) : (ownA o n l).Nodup := by
  unfold ownA
  split
  · exact nodup_lvs _ _ h
  split
  · exact nodup_addA h _
  · exact h
theorem nodup_atl : ∀ (c : Cl) (l : List At), l.Nodup → (atl c l).Nodup
  | .nil, l, h => h
  | .cons o m k r, l, h => nodup_atl r _ (nodup_ownA o m (nodup_atl k l h))
theorem sub_ownA (o n : Int) {l : List At} {a : At} (h : a ∈ l) : a ∈ ownA o n l := by
  unfold ownA
  split
  · exact (mem_lvs _ _).2 (.inl h)
  split
  · exact mem_addA.2 (.inl h)
  · exact h
theorem sub_atl : ∀ (c : Cl) {l : List At} {a : At}, a ∈ l → a ∈ atl c l
  | .nil, l, a, h => h
  | .cons o m k r, l, a, h => sub_atl r (sub_ownA o m (sub_atl k h))
/-- An atom of a valid condition. -/
def goodA (a : At) : Prop := ((a.1 = 2 ∨ a.1 = 3) ∧ 1 ≤ a.2 ∧ a.2 ≤ 8) ∨ (a.1 = 4 ∧ 1 ≤ a.2) ∨ (a.1 = 5 ∧ a.2 ∈ [(1 : Int), 2, 4, 8, 16, 32])
theorem good_atl : ∀ (c : Cl) (l : List At), vL c = true → (∀ a ∈ l, goodA a) → ∀ a ∈ atl c l, goodA a
  | .nil, l, _, h => h
  | .cons o m k r, l, hv, h => by
    rw [vL_cons, Bool.and_eq_true] at hv
    refine good_atl r _ hv.2 ?_
    have hk : ∀ a ∈ atl k l, goodA a := by
      rcases vC_leaf hv.1 with ⟨_, _, rfl⟩ | ⟨_, _, rfl⟩ | ⟨_, _, _, rfl⟩ | ⟨_, _, _, rfl⟩ | ⟨_, _, _, rfl⟩ | ⟨_, _, _, rfl⟩ | ⟨_, _, _, h3⟩
      all_goals first | exact h | exact good_atl k l h3 h
    intro a ha
    unfold ownA at ha
    split at ha
    · rcases (mem_lvs _ _).1 ha with ha | ⟨b, hb, _, rfl⟩
      · exact hk a ha
      · exact .inr (.inr ⟨rfl, hb⟩)
    split at ha
    · rename_i c
      rcases mem_addA.1 ha with ha | rfl
      · exact hk a ha
      · rcases vC_leaf hv.1 with h | h | h | h | h | h | h
        · omega
        · omega
        · exact .inl ⟨.inl h.1, h.2.1, h.2.2.1⟩
        · exact .inl ⟨.inr h.1, h.2.1, h.2.2.1⟩
        · exact .inr (.inl ⟨h.1, h.2.1⟩)
        · omega
        · omega
    · exact hk a ha
/-- A level is the sum of its bits. -/
theorem level_bits (n : Nat) (h : n < 64) : BitVec.ofNat 64 n = (bif hasB (BitVec.ofNat 64 n) 1#64 then 1#64 else 0#64) ||| (bif hasB (BitVec.ofNat 64 n) 2#64 then 2#64 else 0#64) ||| (bif hasB (BitVec.ofNat 64 n) 4#64 then 4#64 else 0#64) ||| (bif hasB (BitVec.ofNat 64 n) 8#64 then 8#64 else 0#64) ||| (bif hasB (BitVec.ofNat 64 n) 16#64 then 16#64 else 0#64) ||| (bif hasB (BitVec.ofNat 64 n) 32#64 then 32#64 else 0#64) := by
  have : ∀ n : Fin 64, BitVec.ofNat 64 n.val = (bif hasB (BitVec.ofNat 64 n.val) 1#64 then 1#64 else 0#64) ||| (bif hasB (BitVec.ofNat 64 n.val) 2#64 then 2#64 else 0#64) ||| (bif hasB (BitVec.ofNat 64 n.val) 4#64 then 4#64 else 0#64) ||| (bif hasB (BitVec.ofNat 64 n.val) 8#64 then 8#64 else 0#64) ||| (bif hasB (BitVec.ofNat 64 n.val) 16#64 then 16#64 else 0#64) ||| (bif hasB (BitVec.ofNat 64 n.val) 32#64 then 32#64 else 0#64) := by decide +kernel
  exact this ⟨n, h⟩
theorem level_range {n : Int} (h1 : 1 ≤ n) (h : bitsI BinOp.and IntKind.i64 51 n = n) : n ≤ 51 := by
  have e : bitsI BinOp.and IntKind.i64 51 n = IntKind.i64.wrap ((bv 51 &&& bv n).toNat : Int) := rfl
  have h2 : (bv 51 &&& bv n).toNat ≤ 51 := by
    rw [BitVec.toNat_and]
    exact Nat.le_trans Nat.and_le_left (by decide)
  rw [e, w64 (by omega) (by omega)] at h
  omega
theorem bv_ofNat (n : Nat) : bv (n : Int) = BitVec.ofNat 64 n := by
  apply BitVec.eq_of_toNat_eq
  rw [bv_toNat, BitVec.toNat_ofNat]; omega
theorem hasB_cond (x y : BitVec 64) (c : Bool) : hasB x (bif c then y else 0#64) = (!c || hasB x y) := by
  cases c <;> simp [hasB_zero]
theorem level_iff (x : BitVec 64) {n : Int} (h1 : 1 ≤ n) (h : bitsI BinOp.and IntKind.i64 51 n = n) :
    hasB x (bv n) = true ↔ ∀ b ∈ [(1 : Int), 2, 4, 8, 16, 32], hasB (bv n) (bv b) = true → hasB x (bv b) = true := by
  have h2 := level_range h1 h
  obtain ⟨k, rfl⟩ := Int.eq_ofNat_of_zero_le (by omega : 0 ≤ n)
  constructor
  · intro hx b _ hb; exact hasB_trans hx hb
  · intro hx
    have e1 : bv 1 = 1#64 := by decide
    have e2 : bv 2 = 2#64 := by decide
    have e4 : bv 4 = 4#64 := by decide
    have e8 : bv 8 = 8#64 := by decide
    have e16 : bv 16 = 16#64 := by decide
    have e32 : bv 32 = 32#64 := by decide
    simp only [List.mem_cons, List.not_mem_nil, or_false, forall_eq_or_imp, forall_eq, bv_ofNat, e1, e2, e4, e8, e16, e32] at hx
    obtain ⟨a1, a2, a4, a8, a16, a32⟩ := hx
    rw [bv_ofNat, level_bits k (by omega)]
    simp only [hasB_or, hasB_cond, Bool.and_eq_true, Bool.or_eq_true, Bool.not_eq_true']
    refine ⟨⟨⟨⟨⟨?_, ?_⟩, ?_⟩, ?_⟩, ?_⟩, ?_⟩
    · cases hc : hasB (BitVec.ofNat 64 k) 1#64 with
      | false => exact .inl rfl
      | true => exact .inr (a1 hc)
    · cases hc : hasB (BitVec.ofNat 64 k) 2#64 with
      | false => exact .inl rfl
      | true => exact .inr (a2 hc)
    · cases hc : hasB (BitVec.ofNat 64 k) 4#64 with
      | false => exact .inl rfl
      | true => exact .inr (a4 hc)
    · cases hc : hasB (BitVec.ofNat 64 k) 8#64 with
      | false => exact .inl rfl
      | true => exact .inr (a8 hc)
    · cases hc : hasB (BitVec.ofNat 64 k) 16#64 with
      | false => exact .inl rfl
      | true => exact .inr (a16 hc)
    · cases hc : hasB (BitVec.ofNat 64 k) 32#64 with
      | false => exact .inl rfl
      | true => exact .inr (a32 hc)
/-- What a condition asks for decides. -/
theorem sq_det {x y : Sec} : ∀ (c : Cl) (l : List At) (all : Bool), vL c = true → (∀ a ∈ atl c l, satB x a.1 a.2 = satB y a.1 a.2) → sq x c all = sq y c all
  | .nil, l, all, _, _ => rfl
  | .cons o m k r, l, all, hv, h => by
    rw [vL_cons, Bool.and_eq_true] at hv
    have hr := sq_det r (ownA o m (atl k l)) all hv.2 h
    have hrt := sq_det r (ownA o m (atl k l)) true hv.2 h
    have hrf := sq_det r (ownA o m (atl k l)) false hv.2 h
    have hown : ∀ a ∈ ownA o m (atl k l), satB x a.1 a.2 = satB y a.1 a.2 := fun a ha => h a (sub_atl r ha)
    have hC : satC x o m k = satC y o m k := by
      unfold satC
      rcases vC_leaf hv.1 with ⟨rfl, _⟩ | ⟨rfl, _⟩ | ⟨rfl, _⟩ | ⟨rfl, _⟩ | ⟨rfl, _⟩ | ⟨rfl, h1, h2, _⟩ | ⟨rfl | rfl, h1, h2, h3⟩
      · simp [satB]
      · simp [satB]
      · have := hown (2, m) (by unfold ownA; rw [if_neg (by omega), if_pos (by omega)]; exact mem_addA.2 (.inr rfl))
        simpa using this
      · have := hown (3, m) (by unfold ownA; rw [if_neg (by omega), if_pos (by omega)]; exact mem_addA.2 (.inr rfl))
        simpa using this
      · have := hown (4, m) (by unfold ownA; rw [if_neg (by omega), if_pos (by omega)]; exact mem_addA.2 (.inr rfl))
        simpa using this
      · have hb0 : ∀ b ∈ [(1 : Int), 2, 4, 8, 16, 32], hasB (bv m) (bv b) = true → hasB (bv x.l) (bv b) = hasB (bv y.l) (bv b) := by
          intro b hb hm
          have := hown (5, b) (by unfold ownA; rw [if_pos rfl]; exact (mem_lvs _ _).2 (.inr ⟨b, hb, hm, rfl⟩))
          simpa [satB] using this
        have : hasB (bv x.l) (bv m) = hasB (bv y.l) (bv m) := by
          rw [Bool.eq_iff_iff, level_iff _ h1 h2, level_iff _ h1 h2]
          exact ⟨fun h b hb hm => by rw [← hb0 b hb hm]; exact h b hb hm, fun h b hb hm => by rw [hb0 b hb hm]; exact h b hb hm⟩
        simpa [satB] using this
      · rw [if_pos rfl, if_pos rfl]
        exact sq_det k l true h3 fun a ha => hown a (sub_ownA _ _ ha)
      · rw [if_neg (by omega), if_pos rfl, if_neg (by omega), if_pos rfl]
        exact sq_det k l false h3 fun a ha => hown a (sub_ownA _ _ ha)
    rw [sq_cons, sq_cons, hC, hrt, hrf]
/-! The trial -/
def wS (s : Sec) (a : At) : Sec :=
  if a.1 = 2 then ⟨IntKind.i64.wrap (s.p + p2 a.2.toNat), s.k, s.s, s.l⟩ else if a.1 = 3 then ⟨s.p, IntKind.i64.wrap (s.k + p2 a.2.toNat), s.s, s.l⟩
  else if a.1 = 4 then ⟨s.p, s.k, if s.s < a.2 then a.2 else s.s, s.l⟩ else if a.1 = 5 then ⟨s.p, s.k, s.s, IntKind.i64.wrap (s.l + a.2)⟩ else s
def implB (A B : Sec → Bool) : List At → Sec → Bool
  | [], s => !A s || B s
  | a :: l, s => implB A B l s && implB A B l (wS s a)
theorem implB_of {A B : Sec → Bool} (h : ∀ s, A s = true → B s = true) : ∀ (l : List At) (s : Sec), implB A B l s = true
  | [], s => by
    unfold implB
    cases hA : A s with
    | false => rfl
    | true => rw [h s hA]; rfl
  | a :: l, s => by unfold implB; rw [implB_of h l, implB_of h l]; rfl
def pathS (z : Sec) : List At → Sec → Sec
  | [], s => s
  | a :: l, s => pathS z l (bif satB z a.1 a.2 then wS s a else s)
theorem implB_path {A B : Sec → Bool} (z : Sec) : ∀ (l : List At) (s : Sec), implB A B l s = true → A (pathS z l s) = true → B (pathS z l s) = true
  | [], s, h, hA => by
    unfold implB at h
    unfold pathS at *
    rw [hA] at h
    simpa using h
  | a :: l, s, h, hA => by
    unfold implB at h
    unfold pathS at *
    rw [Bool.and_eq_true] at h
    cases hz : satB z a.1 a.2 with
    | true => rw [hz] at hA; exact implB_path z l _ h.2 hA
    | false => rw [hz] at hA; exact implB_path z l _ h.1 hA
/-- What is still to come is not there. -/
def fresh (s : Sec) (l : List At) : Prop := ∀ a ∈ l, (a.1 = 2 → bv s.p &&& bv (p2 a.2.toNat) = 0#64) ∧ (a.1 = 3 → bv s.k &&& bv (p2 a.2.toNat) = 0#64) ∧ (a.1 = 5 → bv s.l &&& bv a.2 = 0#64)
theorem bv_add (a b : Int) (h : bv a &&& bv b = 0#64) : bv (IntKind.i64.wrap (a + b)) = bv a ||| bv b := by
  rw [bv_wrap]
  have e : bv (a + b) = bv a + bv b := BitVec.ofInt_add a b
  rw [e]
  exact BitVec.add_eq_or_of_and_eq_zero _ _ h
theorem disj_p2 {n m : Int} (hn : 1 ≤ n ∧ n ≤ 8) (hm : 1 ≤ m ∧ m ≤ 8) (h : n ≠ m) : bv (p2 n.toNat) &&& bv (p2 m.toNat) = 0#64 := by
  have key : ∀ a b : Fin 9, a ≠ b → bv (p2 a.val) &&& bv (p2 b.val) = 0#64 := by decide +kernel
  exact key ⟨n.toNat, by omega⟩ ⟨m.toNat, by omega⟩ (by intro e; injection e with e; omega)
theorem disj_lv {n m : Int} (hn : n ∈ [(1 : Int), 2, 4, 8, 16, 32]) (hm : m ∈ [(1 : Int), 2, 4, 8, 16, 32]) (h : n ≠ m) : bv n &&& bv m = 0#64 := by
  have key : ∀ a ∈ [(1 : Int), 2, 4, 8, 16, 32], ∀ b ∈ [(1 : Int), 2, 4, 8, 16, 32], a ≠ b → bv a &&& bv b = 0#64 := by decide +kernel
  exact key n hn m hm h
theorem or_and_zero {x y z : BitVec 64} (h : x &&& z = 0#64) (k : y &&& z = 0#64) : (x ||| y) &&& z = 0#64 := by
  apply BitVec.eq_of_getLsbD_eq
  intro i hi
  have h1 := congrArg (fun v => v.getLsbD i) h
  have k1 := congrArg (fun v => v.getLsbD i) k
  simp only [BitVec.getLsbD_and, BitVec.getLsbD_zero] at h1 k1 ⊢
  rw [BitVec.getLsbD_or]
  cases hx : x.getLsbD i <;> cases hy : y.getLsbD i <;> cases hz : z.getLsbD i <;> simp_all
/-- One step. -/
theorem wS_step {s z : Sec} {a : At} {l : List At} (hg : ∀ b ∈ a :: l, goodA b) (hnd : (a :: l).Nodup) (hf : fresh s (a :: l)) :
    fresh (wS s a) l ∧ s.le (wS s a) ∧ satB (wS s a) a.1 a.2 = true ∧ (s.le z → satB z a.1 a.2 = true → (wS s a).le z) := by
  obtain ⟨o, n⟩ := a
  have hgo := hg (o, n) (by simp)
  have hfo := hf (o, n) (by simp)
  have hn : ∀ b ∈ l, b ≠ (o, n) := by
    intro b hb e; subst e
    exact (List.nodup_cons.1 hnd).1 hb
  rcases hgo with ⟨h | h, h1, h2⟩ | ⟨h, h1⟩ | ⟨h, h1⟩ <;> simp only at h h1 hfo
  · subst h
    have e := bv_add s.p (p2 n.toNat) (hfo.1 rfl)
    have ew : wS s (2, n) = ⟨IntKind.i64.wrap (s.p + p2 n.toNat), s.k, s.s, s.l⟩ := by simp [wS]
    rw [ew]
    refine ⟨fun b hb => ⟨fun hb2 => ?_, (hf b (by simp [hb])).2.1, (hf b (by simp [hb])).2.2⟩, ⟨?_, hasB_refl _, .inr (Int.le_refl _), hasB_refl _⟩, ?_, fun hz hs => ?_⟩
    · show bv (IntKind.i64.wrap (s.p + p2 n.toNat)) &&& _ = _
      rw [e]
      refine or_and_zero ((hf b (by simp [hb])).1 hb2) ?_
      have hgb := hg b (by simp [hb])
      rcases hgb with ⟨_, h3, h4⟩ | ⟨h3, _⟩ | ⟨h3, _⟩
      · refine disj_p2 ⟨h1, h2⟩ ⟨h3, h4⟩ fun en => hn b hb ?_
        obtain ⟨b1, b2⟩ := b
        simp only at hb2 en; subst hb2; subst en; rfl
      · omega
      · omega
    · show hasB (bv (IntKind.i64.wrap (s.p + p2 n.toNat))) (bv s.p) = true
      rw [e]; exact hasB_or_left _ _
    · simp [satB]
      rw [e]; exact hasB_or_right _ _
    · obtain ⟨a1, a2, a3, a4⟩ := hz
      refine ⟨?_, a2, a3, a4⟩
      show hasB _ (bv (IntKind.i64.wrap (s.p + p2 n.toNat))) = true
      rw [e, hasB_or, a1]
      simpa [satB] using hs
  · subst h
    have e := bv_add s.k (p2 n.toNat) (hfo.2.1 rfl)
    have ew : wS s (3, n) = ⟨s.p, IntKind.i64.wrap (s.k + p2 n.toNat), s.s, s.l⟩ := by simp [wS]
    rw [ew]
    refine ⟨fun b hb => ⟨(hf b (by simp [hb])).1, fun hb2 => ?_, (hf b (by simp [hb])).2.2⟩, ⟨hasB_refl _, ?_, .inr (Int.le_refl _), hasB_refl _⟩, ?_, fun hz hs => ?_⟩
    · show bv (IntKind.i64.wrap (s.k + p2 n.toNat)) &&& _ = _
      rw [e]
      refine or_and_zero ((hf b (by simp [hb])).2.1 hb2) ?_
      have hgb := hg b (by simp [hb])
      rcases hgb with ⟨_, h3, h4⟩ | ⟨h3, _⟩ | ⟨h3, _⟩
      · refine disj_p2 ⟨h1, h2⟩ ⟨h3, h4⟩ fun en => hn b hb ?_
        obtain ⟨b1, b2⟩ := b
        simp only at hb2 en; subst hb2; subst en; rfl
      · omega
      · omega
    · show hasB (bv (IntKind.i64.wrap (s.k + p2 n.toNat))) (bv s.k) = true
      rw [e]; exact hasB_or_left _ _
    · simp [satB]
      rw [e]; exact hasB_or_right _ _
    · obtain ⟨a1, a2, a3, a4⟩ := hz
      refine ⟨a1, ?_, a3, a4⟩
      show hasB _ (bv (IntKind.i64.wrap (s.k + p2 n.toNat))) = true
      rw [e, hasB_or, a2]
      simpa [satB] using hs
  · subst h
    have ew : wS s (4, n) = ⟨s.p, s.k, if s.s < n then n else s.s, s.l⟩ := by simp [wS]
    rw [ew]
    refine ⟨fun b hb => ⟨(hf b (by simp [hb])).1, (hf b (by simp [hb])).2.1, (hf b (by simp [hb])).2.2⟩, ⟨hasB_refl _, hasB_refl _, .inr ?_, hasB_refl _⟩, ?_, fun hz hs => ?_⟩
    · show s.s ≤ if s.s < n then n else s.s
      split <;> omega
    · simp [satB]
      split <;> omega
    · obtain ⟨a1, a2, a3, a4⟩ := hz
      refine ⟨a1, a2, ?_, a4⟩
      show (if s.s < n then n else s.s) ≤ 0 ∨ (if s.s < n then n else s.s) ≤ z.s
      simp [satB] at hs
      split <;> omega
  · subst h
    have e := bv_add s.l n (hfo.2.2 rfl)
    have ew : wS s (5, n) = ⟨s.p, s.k, s.s, IntKind.i64.wrap (s.l + n)⟩ := by simp [wS]
    rw [ew]
    refine ⟨fun b hb => ⟨(hf b (by simp [hb])).1, (hf b (by simp [hb])).2.1, fun hb2 => ?_⟩, ⟨hasB_refl _, hasB_refl _, .inr (Int.le_refl _), ?_⟩, ?_, fun hz hs => ?_⟩
    · show bv (IntKind.i64.wrap (s.l + n)) &&& _ = _
      rw [e]
      refine or_and_zero ((hf b (by simp [hb])).2.2 hb2) ?_
      have hgb := hg b (by simp [hb])
      rcases hgb with ⟨h3 | h3, _⟩ | ⟨h3, _⟩ | ⟨_, h3⟩
      · omega
      · omega
      · omega
      · refine disj_lv h1 h3 fun en => hn b hb ?_
        obtain ⟨b1, b2⟩ := b
        simp only at hb2 en; subst hb2; subst en; rfl
    · show hasB (bv (IntKind.i64.wrap (s.l + n))) (bv s.l) = true
      rw [e]; exact hasB_or_left _ _
    · simp [satB]
      rw [e]; exact hasB_or_right _ _
    · obtain ⟨a1, a2, a3, a4⟩ := hz
      refine ⟨a1, a2, a3, ?_⟩
      show hasB _ (bv (IntKind.i64.wrap (s.l + n))) = true
      rw [e, hasB_or, a4]
      simpa [satB] using hs
theorem path_ok (z : Sec) : ∀ (l : List At) (s : Sec), (∀ a ∈ l, goodA a) → l.Nodup → fresh s l → s.le z →
    s.le (pathS z l s) ∧ (pathS z l s).le z ∧ ∀ a ∈ l, satB z a.1 a.2 = true → satB (pathS z l s) a.1 a.2 = true
  | [], s, _, _, _, hz => ⟨s.le_refl, hz, by simp⟩
  | a :: l, s, hg, hnd, hf, hz => by
    unfold pathS
    have hgl : ∀ b ∈ l, goodA b := fun b hb => hg b (by simp [hb])
    cases hs : satB z a.1 a.2 with
    | false =>
      obtain ⟨h1, h2, h3⟩ := path_ok z l s hgl (List.nodup_cons.1 hnd).2 (fun b hb => hf b (by simp [hb])) hz
      refine ⟨h1, h2, fun b hb hbz => ?_⟩
      rcases List.mem_cons.1 hb with rfl | hb
      · rw [hs] at hbz; cases hbz
      · exact h3 b hb hbz
    | true =>
      obtain ⟨f1, f2, f3, f4⟩ := wS_step (z := z) hg hnd hf
      obtain ⟨h1, h2, h3⟩ := path_ok z l (wS s a) hgl (List.nodup_cons.1 hnd).2 f1 (f4 hz hs)
      refine ⟨Sec.le_trans f2 h1, h2, fun b hb hbz => ?_⟩
      rcases List.mem_cons.1 hb with rfl | hb
      · refine satB_mono h1 _ _ (fun e => ?_) f3
        rcases hg b (by simp) with ⟨h | h, _⟩ | ⟨_, h⟩ | ⟨h, _⟩ <;> omega
      · exact h3 b hb hbz
/-- The trial finds out. -/
theorem impl_ok {o m : Int} {k : Cl} {o' m' : Int} {k' : Cl} (hv : vC o m k = true) (hv' : vC o' m' k' = true) :
    implB (fun s => satC s o m k) (fun s => satC s o' m' k') (atl (.cons o' m' k' .nil) (atl (.cons o m k .nil) [])) zeroS = true ↔ Imp o m k o' m' k' := by
  have e : ∀ (x : Sec) (o m : Int) (k : Cl), sq x (.cons o m k .nil) false = satC x o m k := fun x o m k => by rw [sq_cons]; simp [sq]
  constructor
  · intro h z hz
    have hg : ∀ a ∈ atl (.cons o' m' k' .nil) (atl (.cons o m k .nil) []), goodA a := good_atl _ _ hv' (good_atl _ _ hv (by simp))
    have hnd := nodup_atl (.cons o' m' k' .nil) _ (nodup_atl (.cons o m k .nil) [] List.nodup_nil)
    have hz0 : zeroS.le z := ⟨hasB_zero _, hasB_zero _, .inl (Int.le_refl _), hasB_zero _⟩
    have hf : fresh zeroS (atl (.cons o' m' k' .nil) (atl (.cons o m k .nil) [])) := fun a _ => ⟨fun _ => BitVec.zero_and, fun _ => BitVec.zero_and, fun _ => BitVec.zero_and⟩
    obtain ⟨h1, h2, h3⟩ := path_ok z _ zeroS hg hnd hf hz0
    have key : ∀ a ∈ atl (.cons o' m' k' .nil) (atl (.cons o m k .nil) []), satB (pathS z (atl (.cons o' m' k' .nil) (atl (.cons o m k .nil) [])) zeroS) a.1 a.2 = satB z a.1 a.2 := by
      intro a ha
      rw [Bool.eq_iff_iff]
      refine ⟨satB_mono h2 _ _ fun e => ?_, h3 a ha⟩
      rcases hg a ha with ⟨h | h, _⟩ | ⟨_, h⟩ | ⟨h, _⟩ <;> omega
    have hA := sq_det (x := pathS z (atl (.cons o' m' k' .nil) (atl (.cons o m k .nil) [])) zeroS) (y := z) (.cons o m k .nil) [] false hv fun a ha => key a (sub_atl _ ha)
    have hB := sq_det (x := pathS z (atl (.cons o' m' k' .nil) (atl (.cons o m k .nil) [])) zeroS) (y := z) (.cons o' m' k' .nil) _ false hv' key
    rw [e, e] at hA hB
    rw [← hB]
    exact implB_path z _ _ h (by show satC _ o m k = true; rw [hA]; exact hz)
  · intro h
    exact implB_of h _ _
end Go.Proofs.YtahemenhcoedgaaDoor.En

/- Lists of data objects as plain data; the budget of the statements. -/
namespace Go.Proofs.YtahemenhcoedgaaDoor.En
open Go
set_option linter.unusedVariables false
/-- A list of data objects: the first one's tag, value and kids, and the rest of the list. -/
inductive Tl where
  | nil
  | cons (tag : Int) (value : List UInt8) (kids : Tl) (rest : Tl)
  deriving DecidableEq
namespace Tl
def len : Tl → Nat
  | nil => 0
  | cons _ _ _ r => r.len + 1
def nodes : Tl → Nat
  | nil => 0
  | cons _ _ k r => k.nodes + r.nodes + 1
def append : Tl → Tl → Tl
  | nil, u => u
  | cons t v k r, u => cons t v k (r.append u)
def enc : Tl → List V
  | nil => []
  | cons t v k r => .agg [.int .i64 t, .bytes v, .sl 67 k.enc] :: r.enc
/-- As it came in: tags are of type int, slices have lengths. -/
def wf : Tl → Prop
  | nil => True
  | cons t v k r => (-9223372036854775808 ≤ t ∧ t ≤ 9223372036854775807) ∧ v.length ≤ 9223372036854775807 ∧ k.len ≤ 9223372036854775807 ∧ k.wf ∧ r.wf
/-- Objects and bytes. -/
def wt : Tl → Nat
  | nil => 0
  | cons _ v k r => v.length + 1 + k.wt + r.wt
theorem enc_len : ∀ l : Tl, l.enc.length = l.len
  | nil => rfl
  | cons t v k r => by simp [enc, len, enc_len r]
theorem len_le : ∀ l : Tl, l.len ≤ l.nodes
  | nil => Nat.le_refl _
  | cons t v k r => by have := len_le r; simp only [len, nodes]; omega
theorem enc_append : ∀ a b : Tl, (a.append b).enc = a.enc ++ b.enc
  | nil, b => rfl
  | cons t v k r, b => by simp only [append, enc, enc_append r b, List.cons_append]
theorem len_append : ∀ a b : Tl, (a.append b).len = a.len + b.len
  | nil, b => by simp [append, len]
  | cons t v k r, b => by simp only [append, len, len_append r b]; omega
theorem append_nil : ∀ a : Tl, a.append nil = a
  | nil => rfl
  | cons t v k r => by simp only [append, append_nil r]
end Tl
end Go.Proofs.YtahemenhcoedgaaDoor.En

/- Tags and lengths of data objects: what the program and the reference compute. -/
namespace Go.Proofs.YtahemenhcoedgaaDoor.En
open Go
set_option linter.unusedVariables false
def I64 (t : Int) : Prop := -9223372036854775808 ≤ t ∧ t ≤ 9223372036854775807
def tagV (t : Int) : Bool := decide ((1 ≤ t ∧ t ≤ 255 ∧ t % 32 ≠ 31) ∨ (256 ≤ t ∧ t ≤ 65535 ∧ t / 256 % 32 = 31 ∧ 31 ≤ t % 256 ∧ t % 256 ≤ 127))
def tagC (t : Int) : Bool := tagV t && decide ((if 255 < t then t / 256 else t) / 32 % 2 = 1)
theorem Valid_eq (N : Nat) (t : Int) (h : I64 t) : s_Valid N t = some (tagV t) := by
  unfold s_Valid
  simp only [br_t, br_f, br_dec, br_not, br_and, br_or, bnd1_mk, bnd2_mk, bnd3_mk, bnd4_mk, bnd5_mk, at_zero, at_succ, at_mid, unInt_mk, unBool_mk, unStr_mk, unBytes_mk, unSl_mk, unAgg_mk, unCons_mk, unNil_mk, and31, and255, shr8]
  repeat' split
  all_goals (congr 1; rw [Bool.eq_iff_iff]; simp [tagV]; omega)
theorem Constructed_eq (N : Nat) (t : Int) (h : I64 t) : s_Constructed N t = some (tagC t) := by
  unfold s_Constructed tagC
  simp only [br_t, br_f, br_dec, br_not, br_and, br_or, bnd1_mk, bnd2_mk, bnd3_mk, bnd4_mk, bnd5_mk, at_zero, at_succ, at_mid, unInt_mk, unBool_mk, unStr_mk, unBytes_mk, unSl_mk, unAgg_mk, unCons_mk, unNil_mk, Valid_eq N t h, and32, shr8]
  cases tagV t with
  | false => simp [br]
  | true =>
    simp only [br_t, Bool.true_and]
    by_cases hc : 255 < t
    · rw [if_pos hc, if_pos hc]; congr 1; rw [Bool.eq_iff_iff]; simp; omega
    · rw [if_neg hc, if_neg hc]; congr 1; rw [Bool.eq_iff_iff]; simp; omega
/-! The bytes of tags and lengths -/
def byteI (n : Int) : UInt8 := UInt8.ofNat (n % 256).toNat
def tagB (t : Int) : List UInt8 := if 255 < t then [byteI (t / 256), byteI t] else [byteI t]
def lenB (n : Int) : List UInt8 := if n < 128 then [byteI n] else if n < 256 then [129, byteI n] else [130, byteI (n / 256), byteI n]
theorem tagBytes_eq (N : Nat) (t : Int) : s_tagBytes N t = some (tagB t) := by
  unfold s_tagBytes tagB byteI
  simp only [br_t, br_f, br_dec, br_not, br_and, br_or, bnd1_mk, bnd2_mk, bnd3_mk, bnd4_mk, bnd5_mk, at_zero, at_succ, at_mid, unInt_mk, unBool_mk, unStr_mk, unBytes_mk, unSl_mk, unAgg_mk, unCons_mk, unNil_mk, shr8, wu8]
  split <;> rfl
theorem lengthBytes_eq (N : Nat) (n : Int) : s_lengthBytes N n = some (lenB n) := by
  unfold s_lengthBytes lenB byteI
  simp only [br_t, br_f, br_dec, br_not, br_and, br_or, bnd1_mk, bnd2_mk, bnd3_mk, bnd4_mk, bnd5_mk, at_zero, at_succ, at_mid, unInt_mk, unBool_mk, unStr_mk, unBytes_mk, unSl_mk, unAgg_mk, unCons_mk, unNil_mk, shr8, wu8]
  repeat' split
  all_goals rfl
end Go.Proofs.YtahemenhcoedgaaDoor.En

/- The bytes of conditions: there and back. Plain. -/
namespace Go.Proofs.YtahemenhcoedgaaDoor.En
open Go
set_option linter.unusedVariables false
/-- The bytes of a list of conditions. -/
def eL : Cl → List UInt8
  | .nil => []
  | .cons o m k r => (byteI o :: (if 6 ≤ o then byteI (k.len : Int) :: eL k else if 2 ≤ o then [byteI m] else [])) ++ eL r
def eC (o m : Int) (k : Cl) : List UInt8 := byteI o :: (if 6 ≤ o then byteI (k.len : Int) :: eL k else if 2 ≤ o then [byteI m] else [])
theorem eL_cons (o m : Int) (k r : Cl) : eL (.cons o m k r) = eC o m k ++ eL r := by
  conv => lhs; unfold eL
  rfl
/-- The depth. -/
def Cl.dep : Cl → Nat
  | .nil => 0
  | .cons _ _ k r => max (k.dep + 1) r.dep
theorem Cl.dep_le : ∀ l : Cl, l.dep ≤ l.nodes
  | .nil => Nat.le_refl _
  | .cons o m k r => by
    have := dep_le k
    have := dep_le r
    simp only [Cl.dep, Cl.nodes]; omega
theorem eL_len : ∀ l : Cl, (eL l).length ≤ 2 * l.nodes
  | .nil => Nat.le_refl _
  | .cons o m k r => by
    have h1 := eL_len k
    have h2 := eL_len r
    rw [eL_cons]
    unfold eC
    simp only [List.length_append, List.length_cons, Cl.nodes]
    split
    · simp only [List.length_cons]; omega
    split
    · simp; omega
    · simp; omega
/-! Reading -/
def rdL (f : List UInt8 → Option ((Int × Int × Cl) × List UInt8)) : Nat → List UInt8 → Option (Cl × List UInt8)
  | 0, b => some (.nil, b)
  | n + 1, b => match f b with
    | none => none
    | some ((o, m, k), rest) => match rdL f n rest with
      | none => none
      | some (r, rest') => some (.cons o m k r, rest')
def rd (lim : Int) : Nat → List UInt8 → Option ((Int × Int × Cl) × List UInt8)
  | 0, _ => none
  | _ + 1, [] => none
  | d + 1, op :: b =>
    if lim < (op.toNat : Int) then none
    else if (op.toNat : Int) < 2 then some (((op.toNat : Int), 0, .nil), b)
    else match b with
      | [] => none
      | n :: b =>
        if (op.toNat : Int) < 6 then some (((op.toNat : Int), (n.toNat : Int), .nil), b)
        else match rdL (rd lim d) n.toNat b with
          | none => none
          | some (k, rest) => some (((op.toNat : Int), 0, k), rest)
end Go.Proofs.YtahemenhcoedgaaDoor.En

/- Encoding data objects: what the program and the reference compute. -/
namespace Go.Proofs.YtahemenhcoedgaaDoor.En
open Go
set_option linter.unusedVariables false
def Tl.isNil : Tl → Bool
  | .nil => true
  | _ => false
def okL : Int → Tl → Bool
  | _, .nil => true
  | d, .cons t v k r => (decide (d ≤ 8) && (tagV t && (bif tagC t then v.isEmpty && okL (d + 1) k else k.isNil))) && okL d r
def encL : Tl → List UInt8
  | .nil => []
  | .cons t v k r => (tagB t ++ lenB ((bif tagC t then encL k else v).length : Int) ++ (bif tagC t then encL k else v)) ++ encL r
theorem encL_cons (t : Int) (v : List UInt8) (k r : Tl) : encL (.cons t v k r) = (tagB t ++ lenB ((bif tagC t then encL k else v).length : Int) ++ (bif tagC t then encL k else v)) ++ encL r := by
  conv => lhs; unfold encL
theorem isNil_len (k : Tl) : k.isNil = decide (k.len = 0) := by cases k <;> simp [Tl.isNil, Tl.len]
theorem tagB_len (t : Int) : 1 ≤ (tagB t).length ∧ (tagB t).length ≤ 2 := by unfold tagB; split <;> simp
theorem lenB_len (n : Int) : 1 ≤ (lenB n).length ∧ (lenB n).length ≤ 3 := by unfold lenB; (repeat' split) <;> simp
section
variable (N : Nat) (n : Nat) (d : Int)
abbrev L63 (k : Tl) : Prop := k.len ≤ 9223372036854775807
theorem mid (pre : List V) (x : V) (suf : List V) : pre ++ x :: suf = (pre ++ [x]) ++ suf := by simp
/-- What a step through a list knows. -/
theorem stepI (pre : List V) (x : V) (suf : List V) (h : pre.length + (suf.length + 1) ≤ 9223372036854775807) :
    (pre.length : Int) < ((pre ++ x :: suf).length : Int) ∧ (0 : Int) ≤ pre.length ∧ IntKind.i64.wrap ((pre.length : Int) + 1) = ((pre ++ [x]).length : Int) ∧ ((pre ++ x :: suf).length : Int) = (((pre ++ [x]) ++ suf).length : Int) := by
  refine ⟨by simp; omega, by omega, ?_, by simp⟩
  rw [w64 (by omega) (by omega)]; simp
theorem endI (pre : List V) : ¬ ((pre.length : Int) < ((pre ++ ([] : List V)).length : Int)) := by simp
theorem IndexFuncV_loop (f : List V → Int → Option Bool) (hd : -9223372036854775808 ≤ d ∧ d ≤ 1000) (hf : ∀ (k : Tl), d ≤ 8 → k.nodes < n → k.wf → L63 k → f k.enc (d + 1) = some (okL (d + 1) k)) :
    ∀ (l : Tl) (pre : List V) (t : Nat), l.len < t → l.nodes ≤ n → l.wf → pre.length + l.len ≤ 9223372036854775807 →
      ∃ i, S_IndexFuncV_2 N f (pre ++ l.enc) ((pre ++ l.enc).length : Int) d t (pre.length : Int) (fun n0 => some n0) (some (-1)) = some i ∧ decide (0 ≤ i) = !okL d l
  | l, pre, 0, ht, _, _, _ => by omega
  | .nil, pre, t + 1, ht, _, _, _ => by
    unfold S_IndexFuncV_2 F_IndexFuncV_2
    simp only [Tl.enc, br_t, br_f, br_dec, br_not, br_and, br_or, bnd1_mk, bnd2_mk, bnd3_mk, bnd4_mk, bnd5_mk, at_zero, at_succ, at_mid, unInt_mk, unBool_mk, unStr_mk, unBytes_mk, unSl_mk, unAgg_mk, unCons_mk, unNil_mk, endI, if_false]
    exact ⟨-1, rfl, by simp [okL]⟩
  | .cons tg v k r, pre, t + 1, ht, hn, hw, hl => by
    simp only [Tl.len, Tl.nodes] at ht hn hl
    obtain ⟨ht1, hv, hk1, hk2, hr⟩ := hw
    obtain ⟨h1, h2, h3, h4⟩ := stepI pre (.agg [.int .i64 tg, .bytes v, .sl 67 k.enc]) r.enc (by rw [Tl.enc_len]; exact hl)
    obtain ⟨i, ih1, ih2⟩ := IndexFuncV_loop f hd hf r (pre ++ [.agg [.int .i64 tg, .bytes v, .sl 67 k.enc]]) t (by omega) (by omega) hr (by simp; omega)
    rw [← mid, ← h3] at ih1
    unfold S_IndexFuncV_2 F_IndexFuncV_2 s_valid1 C_valid1 okL
    simp only [Tl.enc, br_t, br_f, br_dec, br_not, br_and, br_or, bnd1_mk, bnd2_mk, bnd3_mk, bnd4_mk, bnd5_mk, at_zero, at_succ, at_mid, unInt_mk, unBool_mk, unStr_mk, unBytes_mk, unSl_mk, unAgg_mk, unCons_mk, unNil_mk, h1, h2, if_true, Int.toNat_natCast, Valid_eq N tg ht1, Constructed_eq N tg ht1]
    by_cases c1 : 8 < d
    · rw [if_pos c1]
      exact ⟨_, by rw [bnd1_mk, br_t], by simp; omega⟩
    · rw [if_neg c1]
      cases tagV tg with
      | false => exact ⟨_, by rw [br_f, bnd1_mk, br_t], by simp⟩
      | true =>
        rw [br_t]
        cases tagC tg with
        | false =>
          rw [br_f, bnd1_mk, br_dec, Tl.enc_len]
          by_cases c2 : (0 : Int) < (k.len : Int)
          · rw [if_pos c2]; refine ⟨_, rfl, ?_⟩; simp [isNil_len]; omega
          · rw [if_neg c2]; refine ⟨i, ih1, ?_⟩
            rw [ih2]
            have : k.len = 0 := by omega
            simp [isNil_len, this, (by omega : d ≤ 8)]
        | true =>
          rw [br_t]
          by_cases c2 : (0 : Int) < (v.length : Int)
          · rw [if_pos c2]
            refine ⟨_, by rw [bnd1_mk, br_t], ?_⟩
            cases v with
            | nil => simp at c2
            | cons a b => simp
          · rw [if_neg c2]
            have hv0 : v = [] := List.length_eq_zero_iff.1 (by omega)
            subst hv0
            rw [w64 (n := d + 1) (by omega) (by omega), hf k (by omega) (by omega) hk2 hk1, bnd1_mk, bnd1_mk]
            cases okL (d + 1) k with
            | false => refine ⟨_, rfl, by simp⟩
            | true => refine ⟨i, ih1, ?_⟩; rw [ih2]; simp [(by omega : d ≤ 8)]
theorem valid_eq (N : Nat) : ∀ (M : Nat) (l : Tl) (d : Int), l.nodes < M → l.nodes < N → l.wf → L63 l → -9223372036854775808 ≤ d ∧ d ≤ 1000 → s_valid N M l.enc d = some (okL d l)
  | 0, l, d, h, _, _, _, _ => by omega
  | M + 1, l, d, h, hN, hw, hl, hd => by
    have := l.len_le
    obtain ⟨i, h1, h2⟩ := IndexFuncV_loop N l.nodes d (s_valid N M) hd (fun k hd8 hk hkw hkl => valid_eq N M k (d + 1) (by omega) (by omega) hkw hkl (by omega)) l [] N (by omega) (Nat.le_refl _) hw (by simpa using hl)
    simp only [List.nil_append, List.length_nil, Int.natCast_zero] at h1
    unfold s_valid B_valid s_ContainsFuncV C_ContainsFuncV s_IndexFuncV C_IndexFuncV
    have h1' : S_IndexFuncV_2 N (s_valid N M) l.enc (l.enc.length : Int) d N 0 (fun n0 => some n0) (some (-1)) = some i := h1
    rw [h1', bnd1_mk, bnd1_mk, h2, Bool.not_not]
/-! size -/
theorem size_loop (f : List V → Option Int)
    (hf : ∀ (k : Tl), k.nodes < n → k.wf → L63 k → k.wt ≤ 20000 → okL (d + 1) k = true → ∃ s, f k.enc = some s ∧ (((encL k).length : Int) ≤ 4096 → s = (encL k).length) ∧ (4096 < ((encL k).length : Int) → 4096 < s) ∧ 0 ≤ s ∧ s ≤ 5 * k.wt) :
    ∀ (l : Tl) (pre : List V) (t : Nat) (n0 : Int), l.len < t → l.nodes ≤ n → l.wf → pre.length + l.len ≤ 9223372036854775807 → l.wt ≤ 20000 → okL d l = true → 0 ≤ n0 → n0 ≤ 4096 →
      ∃ s, S_size_3 N f (pre ++ l.enc) ((pre ++ l.enc).length : Int) t n0 (pre.length : Int) (fun n0 => some n0) = some s ∧ (n0 + (encL l).length ≤ 4096 → s = n0 + (encL l).length) ∧ (4096 < n0 + (encL l).length → 4096 < s) ∧ n0 ≤ s ∧ s ≤ n0 + 5 * l.wt
  | l, pre, 0, n0, ht, _, _, _, _, _, _, _ => by omega
  | .nil, pre, t + 1, n0, ht, _, _, _, _, _, _, _ => by
    unfold S_size_3 F_size_3
    simp only [Tl.enc, br_t, br_f, br_dec, br_not, br_and, br_or, bnd1_mk, bnd2_mk, bnd3_mk, bnd4_mk, bnd5_mk, at_zero, at_succ, at_mid, unInt_mk, unBool_mk, unStr_mk, unBytes_mk, unSl_mk, unAgg_mk, unCons_mk, unNil_mk, endI, if_false]
    exact ⟨n0, rfl, fun _ => by simp [encL], fun h => by simp [encL] at h; omega, Int.le_refl _, by omega⟩
  | .cons tg v k r, pre, t + 1, n0, ht, hn, hw, hl, hwt, hok, hn0, hn1 => by
    simp only [Tl.len, Tl.nodes, Tl.wt] at ht hn hl hwt
    obtain ⟨ht1, hv, hk1, hk2, hr⟩ := hw
    obtain ⟨h1, h2, h3, h4⟩ := stepI pre (.agg [.int .i64 tg, .bytes v, .sl 67 k.enc]) r.enc (by rw [Tl.enc_len]; exact hl)
    unfold okL at hok
    simp only [Bool.and_eq_true] at hok
    obtain ⟨⟨hd8, htv, hb⟩, hokr⟩ := hok
    -- the kids
    have hkid : ∃ s, f k.enc = some s ∧ (((bif tagC tg then encL k else v).length : Int) ≤ 4096 → (v.length : Int) + s = (bif tagC tg then encL k else v).length) ∧ (4096 < ((bif tagC tg then encL k else v).length : Int) → 4096 < (v.length : Int) + s) ∧ 0 ≤ s ∧ s ≤ 5 * k.wt := by
      cases hc : tagC tg with
      | true =>
        rw [hc] at hb
        simp only [cond_true, Bool.and_eq_true] at hb
        have hv0 : v = [] := by cases v with | nil => rfl | cons a b => simp at hb
        subst hv0
        obtain ⟨s, s1, s2, s3, s4, s5⟩ := hf k (by omega) hk2 hk1 (by omega) hb.2
        exact ⟨s, s1, fun h => by rw [s2 h]; simp, fun h => by have := s3 h; simp; omega, s4, s5⟩
      | false =>
        rw [hc] at hb
        simp only [cond_false] at hb
        have hk0 : k = .nil := by cases k with | nil => rfl | cons a b c d => simp [Tl.isNil] at hb
        subst hk0
        obtain ⟨s, s1, s2, s3, s4, s5⟩ := hf .nil (by have : Tl.nil.nodes = 0 := rfl; omega) trivial (Nat.zero_le _) (Nat.zero_le _) rfl
        have hs0 : s = 0 := by have := s2 (by simp [encL]); simpa [encL] using this
        subst hs0
        exact ⟨0, s1, fun h => Int.add_zero _, fun h => by rw [Int.add_zero]; exact h, Int.le_refl _, by omega⟩
    obtain ⟨s, s1, s2, s3, s4, s5⟩ := hkid
    have hE : (encL (.cons tg v k r)).length = (tagB tg).length + (lenB ((bif tagC tg then encL k else v).length : Int)).length + (bif tagC tg then encL k else v).length + (encL r).length := by
      rw [encL_cons]; simp only [List.length_append]
    rw [hE]
    generalize hB : (bif tagC tg then encL k else v) = B at *
    have ht2 := tagB_len tg
    have hl2 := lenB_len ((v.length : Int) + s)
    have hl3 := lenB_len (B.length : Int)
    unfold S_size_3 F_size_3
    have w1 : IntKind.i64.wrap ((v.length : Int) + s) = v.length + s := w64 (by omega) (by omega)
    simp only [Tl.enc, br_t, br_f, br_dec, br_not, br_and, br_or, bnd1_mk, bnd2_mk, bnd3_mk, bnd4_mk, bnd5_mk, at_zero, at_succ, at_mid, unInt_mk, unBool_mk, unStr_mk, unBytes_mk, unSl_mk, unAgg_mk, unCons_mk, unNil_mk, h1, h2, if_true, Int.toNat_natCast, s1, tagBytes_eq, w1, lengthBytes_eq]
    have w2 : IntKind.i64.wrap (((tagB tg).length : Int) + ((lenB ((v.length : Int) + s)).length : Int)) = (tagB tg).length + (lenB ((v.length : Int) + s)).length := w64 (by omega) (by omega)
    rw [w2]
    have w3 : IntKind.i64.wrap (((tagB tg).length : Int) + ((lenB ((v.length : Int) + s)).length : Int) + ((v.length : Int) + s)) = (tagB tg).length + (lenB ((v.length : Int) + s)).length + (v.length + s) := w64 (by omega) (by omega)
    rw [w3]
    have w4 : IntKind.i64.wrap (n0 + (((tagB tg).length : Int) + ((lenB ((v.length : Int) + s)).length : Int) + ((v.length : Int) + s))) = n0 + ((tagB tg).length + (lenB ((v.length : Int) + s)).length + (v.length + s)) := w64 (by omega) (by omega)
    rw [w4]
    by_cases c1 : 4096 < n0 + (((tagB tg).length : Int) + ((lenB ((v.length : Int) + s)).length : Int) + ((v.length : Int) + s))
    · rw [if_pos c1]
      refine ⟨_, rfl, fun h => ?_, fun _ => c1, by omega, by simp only [Tl.wt]; omega⟩
      exfalso
      have e1 := s2 (by omega)
      rw [e1] at c1
      omega
    · rw [if_neg c1]
      have e1 : (v.length : Int) + s = B.length := by
        by_cases hb4 : (B.length : Int) ≤ 4096
        · exact s2 hb4
        · have := s3 (by omega); omega
      rw [e1] at c1 ⊢
      obtain ⟨q, q1, q2, q3, q4, q5⟩ := size_loop f hf r (pre ++ [.agg [.int .i64 tg, .bytes v, .sl 67 k.enc]]) t (n0 + (((tagB tg).length : Int) + ((lenB (B.length : Int)).length : Int) + (B.length : Int))) (by omega) (by omega) hr (by simp; omega) (by omega) hokr (by omega) (by omega)
      rw [← mid, ← h3] at q1
      refine ⟨q, q1, fun h => by rw [q2 (by omega)]; omega, fun h => q3 (by omega), by omega, by simp only [Tl.wt]; omega⟩
theorem size_eq (N : Nat) : ∀ (M : Nat) (l : Tl) (d : Int), l.nodes < M → l.nodes < N → l.wf → L63 l → l.wt ≤ 20000 → okL d l = true →
    ∃ s, s_size N M l.enc = some s ∧ (((encL l).length : Int) ≤ 4096 → s = (encL l).length) ∧ (4096 < ((encL l).length : Int) → 4096 < s) ∧ 0 ≤ s ∧ s ≤ 5 * l.wt
  | 0, l, d, h, _, _, _, _, _ => by omega
  | M + 1, l, d, h, hN, hw, hl, hwt, hok => by
    have := l.len_le
    obtain ⟨s, s1, s2, s3, s4, s5⟩ := size_loop N l.nodes d (s_size N M) (fun k hk hkw hkl hkwt hkok => size_eq N M k (d + 1) (by omega) (by omega) hkw hkl hkwt hkok) l [] N 0 (by omega) (Nat.le_refl _) hw (by simpa using hl) hwt hok (by omega) (by omega)
    unfold s_size B_size
    refine ⟨s, s1, fun h => by rw [s2 (by omega)]; omega, fun h => s3 (by omega), by omega, by omega⟩
/-! encode, all -/
theorem concat4 (a b c e : List UInt8) (h : a.length + b.length + c.length + e.length ≤ 1000000) : s_concat N [.bytes a, .bytes b, .bytes c, .bytes e] = some (a ++ (b ++ c ++ e)) := by
  unfold s_concat
  simp only [flatB, Option.bind_some, br_dec]
  rw [if_pos (by simp; omega)]
  simp
theorem encode_loop (f : List V → Option (List UInt8)) (hf : ∀ (k : Tl), k.nodes < n → k.wf → L63 k → (encL k).length ≤ 4096 → f k.enc = some (encL k)) :
    ∀ (l : Tl) (pre : List V) (t : Nat) (acc : List UInt8), l.len < t → l.nodes ≤ n → l.wf → pre.length + l.len ≤ 9223372036854775807 → acc.length + (encL l).length ≤ 4096 →
      S_encode_3 N f (pre ++ l.enc) ((pre ++ l.enc).length : Int) t acc (pre.length : Int) (fun l0 => some l0) = some (acc ++ encL l)
  | l, pre, 0, acc, ht, _, _, _, _ => by omega
  | .nil, pre, t + 1, acc, ht, _, _, _, _ => by
    unfold S_encode_3 F_encode_3
    simp only [Tl.enc, br_t, br_f, br_dec, br_not, br_and, br_or, bnd1_mk, bnd2_mk, bnd3_mk, bnd4_mk, bnd5_mk, at_zero, at_succ, at_mid, unInt_mk, unBool_mk, unStr_mk, unBytes_mk, unSl_mk, unAgg_mk, unCons_mk, unNil_mk, endI, if_false]
    simp [encL]
  | .cons tg v k r, pre, t + 1, acc, ht, hn, hw, hl, hE => by
    simp only [Tl.len, Tl.nodes] at ht hn hl
    obtain ⟨ht1, hv, hk1, hk2, hr⟩ := hw
    obtain ⟨h1, h2, h3, h4⟩ := stepI pre (.agg [.int .i64 tg, .bytes v, .sl 67 k.enc]) r.enc (by rw [Tl.enc_len]; exact hl)
    rw [encL_cons] at hE ⊢
    have ht2 := tagB_len tg
    unfold S_encode_3 F_encode_3
    simp only [Tl.enc, br_t, br_f, br_dec, br_not, br_and, br_or, bnd1_mk, bnd2_mk, bnd3_mk, bnd4_mk, bnd5_mk, at_zero, at_succ, at_mid, unInt_mk, unBool_mk, unStr_mk, unBytes_mk, unSl_mk, unAgg_mk, unCons_mk, unNil_mk, h1, h2, if_true, Int.toNat_natCast, Constructed_eq N tg ht1, tagBytes_eq, lengthBytes_eq]
    generalize hB : (bif tagC tg then encL k else v) = B at *
    simp only [List.length_append] at hE
    have ih := encode_loop f hf r (pre ++ [.agg [.int .i64 tg, .bytes v, .sl 67 k.enc]]) t (acc ++ (tagB tg ++ lenB (B.length : Int) ++ B)) (by omega) (by omega) hr (by simp; omega) (by simp; omega)
    rw [← mid, ← h3] at ih
    cases hc : tagC tg with
    | true =>
      rw [hc] at hB
      simp only [cond_true] at hB
      subst hB
      rw [br_t, hf k (by omega) hk2 hk1 (by omega), bnd1_mk, concat4 N _ _ _ _ (by omega), bnd1_mk, ih]; simp
    | false =>
      rw [hc] at hB
      simp only [cond_false] at hB
      subst hB
      rw [br_f, concat4 N _ _ _ _ (by omega), bnd1_mk, ih]; simp
theorem encode_eq (N : Nat) : ∀ (M : Nat) (l : Tl), l.nodes < M → l.nodes < N → l.wf → L63 l → (encL l).length ≤ 4096 → s_encode N M l.enc = some (encL l)
  | 0, l, h, _, _, _, _ => by omega
  | M + 1, l, h, hN, hw, hl, hE => by
    have := l.len_le
    exact encode_loop N l.nodes (s_encode N M) (fun k hk hkw hkl hkE => encode_eq N M k (by omega) (by omega) hkw hkl hkE) l [] N [] (by omega) (Nat.le_refl _) hw (by simpa using hl) (by simpa using hE)
/-- Encode -/
def encR (l : Tl) : List UInt8 × Int := if okL 1 l = true then (if (encL l).length ≤ 4096 then (encL l, 0) else ([], 3)) else ([], 1)
theorem Encode_eq (l : Tl) (h : l.nodes < N) (hw : l.wf) (hl : L63 l) (hwt : l.wt ≤ 20000) : s_Encode N l.enc = some (encR l) := by
  unfold s_Encode encR
  rw [valid_eq N N l 1 h h hw hl (by omega), bnd1_mk, br_not]
  cases hok : okL 1 l with
  | false => rfl
  | true =>
    obtain ⟨s, s1, s2, s3, s4, s5⟩ := size_eq N N l 1 h h hw hl hwt hok
    simp only [br_t, if_true, s1, bnd1_mk, br_dec]
    by_cases hE : (encL l).length ≤ 4096
    · rw [if_pos hE, s2 (by omega), if_neg (by omega), encode_eq N N l h h hw hl hE, bnd1_mk]
    · rw [if_neg hE, if_pos (s3 (by omega))]
end
end Go.Proofs.YtahemenhcoedgaaDoor.En

/- Conditions: which are valid, how long, how deep, satisfied: the program and the reference. -/
namespace Go.Proofs.YtahemenhcoedgaaDoor.En
open Go
set_option linter.unusedVariables false
abbrev ce (o m : Int) (k : Cl) : V := .agg [.int .i64 o, .int .i64 m, .sl 24 k.enc]
abbrev K63 (k : Cl) : Prop := k.len ≤ 9223372036854775807
theorem enc_cons (o m : Int) (k r : Cl) : (Cl.cons o m k r).enc = ce o m k :: r.enc := rfl
theorem stepC (pre : List V) (x : V) (r : Cl) (h : pre.length + (r.len + 1) ≤ 9223372036854775807) :
    (pre.length : Int) < ((pre ++ x :: r.enc).length : Int) ∧ (0 : Int) ≤ pre.length ∧ IntKind.i64.wrap ((pre.length : Int) + 1) = ((pre ++ [x]).length : Int) ∧ ((pre ++ x :: r.enc).length : Int) = (((pre ++ [x]) ++ r.enc).length : Int) :=
  stepI pre x r.enc (by rw [Cl.enc_len]; exact h)
section
variable (N : Nat)
theorem andNot_eq {m : Int} (h1 : 1 ≤ m) (h2 : m ≤ 51) : decide (bitsI BinOp.andNot IntKind.i64 m 51 = 0) = decide (bitsI BinOp.and IntKind.i64 51 m = m) := by
  have key : ∀ n : Fin 52, decide (bitsI BinOp.andNot IntKind.i64 (n.val : Int) 51 = 0) = decide (bitsI BinOp.and IntKind.i64 51 (n.val : Int) = (n.val : Int)) := by decide +kernel
  obtain ⟨k, rfl⟩ := Int.eq_ofNat_of_zero_le (by omega : 0 ≤ m)
  exact key ⟨k, by omega⟩
theorem IndexFuncA_loop (f : Int → Int → List V → Int → Option Bool) (n : Nat) (d : Int) (hf : ∀ (o m : Int) (k : Cl) (d : Int), k.nodes < n → k.wf → K63 k → f o m k.enc d = some (vC o m k)) :
    ∀ (l : Cl) (pre : List V) (t : Nat), l.len < t → l.nodes ≤ n → l.wf → pre.length + l.len ≤ 9223372036854775807 →
      ∃ i, S_IndexFuncA_2 N f (pre ++ l.enc) ((pre ++ l.enc).length : Int) d t (pre.length : Int) (fun n0 => some n0) (some (-1)) = some i ∧ decide (0 ≤ i) = !vL l
  | l, pre, 0, ht, _, _, _ => by omega
  | .nil, pre, t + 1, ht, _, _, _ => by
    unfold S_IndexFuncA_2 F_IndexFuncA_2
    simp only [Cl.enc, br_t, br_f, br_dec, br_not, br_and, br_or, bnd1_mk, bnd2_mk, bnd3_mk, bnd4_mk, bnd5_mk, at_zero, at_succ, at_mid, unInt_mk, unBool_mk, unStr_mk, unBytes_mk, unSl_mk, unAgg_mk, unCons_mk, unNil_mk, endI, if_false]
    exact ⟨-1, rfl, by simp [vL]⟩
  | .cons o m k r, pre, t + 1, ht, hn, hw, hl => by
    simp only [Cl.len, Cl.nodes] at ht hn hl
    obtain ⟨_, _, hk1, hk2, hr⟩ := hw
    obtain ⟨h1, h2, h3, h4⟩ := stepC pre (ce o m k) r hl
    obtain ⟨i, ih1, ih2⟩ := IndexFuncA_loop f n d hf r (pre ++ [ce o m k]) t (by omega) (by omega) hr (by simp; omega)
    rw [← mid, ← h3] at ih1
    unfold S_IndexFuncA_2 F_IndexFuncA_2 s_avalid1 C_avalid1
    rw [vL_cons]
    simp only [enc_cons, br_t, br_f, br_dec, br_not, br_and, br_or, bnd1_mk, bnd2_mk, bnd3_mk, bnd4_mk, bnd5_mk, at_zero, at_succ, at_mid, unInt_mk, unBool_mk, unStr_mk, unBytes_mk, unSl_mk, unAgg_mk, unCons_mk, unNil_mk, h1, h2, if_true, Int.toNat_natCast, hf o m k _ (by omega) hk2 hk1]
    cases vC o m k with
    | false => exact ⟨_, rfl, by simp⟩
    | true => exact ⟨i, ih1, by rw [ih2]; rfl⟩
theorem avalid_eq : ∀ (M : Nat) (o m : Int) (k : Cl) (d : Int), k.nodes < M → k.nodes < N → k.wf → K63 k → s_avalid N M o m k.enc d = some (vC o m k)
  | 0, o, m, k, d, h, _, _, _ => by omega
  | M + 1, o, m, k, d, h, hN, hw, hl => by
    have hln := Cl.len_le k
    obtain ⟨i, i1, i2⟩ := IndexFuncA_loop N (s_avalid N M) k.nodes d (fun o m k' d' a1 a2 a3 => avalid_eq M o m k' d' (by omega) (by omega) a2 a3) k [] N (by omega) (Nat.le_refl _) hw (by simpa using hl)
    have i1' : S_IndexFuncA_2 N (s_avalid N M) k.enc (k.enc.length : Int) d N 0 (fun n0 => some n0) (some (-1)) = some i := i1
    have hz : ((k.enc.length : Int) = 0) = (k.len = 0) := by rw [Cl.enc_len]; exact propext (by omega)
    have hp : ((0 : Int) < (k.enc.length : Int)) = (k.len ≠ 0) := by rw [Cl.enc_len]; exact propext (by omega)
    have hc : s_ContainsFuncA N (s_avalid N M) k.enc d = some (!vL k) := by
      unfold s_ContainsFuncA C_ContainsFuncA s_IndexFuncA C_IndexFuncA
      rw [i1', bnd1_mk]
      exact congrArg some i2
    have hv0 : k.len = 0 → vL k = true := by cases k <;> simp [Cl.len, vL]
    unfold s_avalid B_avalid
    simp only [hc, hz, hp, s_forms, bnd1_mk, br_dec, br_not, Bool.not_not, vC, vL, Bool.and_true]
    by_cases h0 : o < 0
    · rw [if_pos h0, if_neg (by omega), if_neg (by omega), if_neg (by omega), if_neg (by omega), if_neg (by omega)]
    rw [if_neg h0]
    by_cases h9 : 7 < o
    · rw [if_pos h9, if_neg (by omega), if_neg (by omega), if_neg (by omega), if_neg (by omega), if_neg (by omega)]
    rw [if_neg h9]
    rcases (by omega : o = 0 ∨ o = 1 ∨ o = 2 ∨ o = 3 ∨ o = 4 ∨ o = 5 ∨ o = 6 ∨ o = 7) with rfl | rfl | rfl | rfl | rfl | rfl | rfl | rfl
    · by_cases hm : m = 0 <;> by_cases hk : k.len = 0 <;> simp [hm, hk, hv0]
    · by_cases hm : m = 0 <;> by_cases hk : k.len = 0 <;> simp [hm, hk, hv0]
    · by_cases ha : m < 1 <;> by_cases hb : 8 < m <;> by_cases hk : k.len = 0 <;> simp [ha, hb, hk, hv0] <;> omega
    · by_cases ha : m < 1 <;> by_cases hb : 8 < m <;> by_cases hk : k.len = 0 <;> simp [ha, hb, hk, hv0] <;> omega
    · by_cases ha : m < 1 <;> by_cases hb : 5 < m <;> by_cases hk : k.len = 0 <;> simp [ha, hb, hk, hv0] <;> omega
    · by_cases ha : m < 1
      · simp [ha]; omega
      by_cases hb : 51 < m
      · have : ¬ bitsI BinOp.and IntKind.i64 51 m = m := fun e => by have := level_range (by omega) e; omega
        simp [ha, hb, this]
      have he := andNot_eq (m := m) (by omega) (by omega)
      rw [decide_eq_decide] at he
      by_cases hk : k.len = 0
      · by_cases hx : bitsI BinOp.and IntKind.i64 51 m = m
        · simp [ha, hb, hk, hv0, hx, he.2 hx]; omega
        · simp [ha, hb, hk, hv0, hx, he]
      · simp [ha, hb, hk]
    · by_cases hm : m = 0 <;> by_cases hk : k.len = 0 <;> simp [hm, hk]
    · by_cases hm : m = 0 <;> by_cases hk : k.len = 0 <;> simp [hm, hk]
/-! Nodes, depth -/
theorem measure_loop {R : Type} (f : Int → Int → List V → Option (Int × Int)) (n : Nat) (hf : ∀ (o m : Int) (k : Cl), k.nodes < n → k.wf → K63 k → f o m k.enc = some ((k.nodes : Int) + 1, (k.dep : Int) + 1)) (x y : Int) (z : List V) (K : Int → Int → Option R) :
    ∀ (l : Cl) (pre : List V) (t : Nat) (a b : Nat), l.len < t → l.nodes ≤ n → l.wf → pre.length + l.len ≤ 9223372036854775807 → a + l.nodes ≤ 10000000000000000 →
      S_measure_3 N f (pre ++ l.enc) ((pre ++ l.enc).length : Int) x y z t (a : Int) (b : Int) (pre.length : Int) K = K ((a + l.nodes : Nat) : Int) ((max b l.dep : Nat) : Int)
  | l, pre, 0, a, b, ht, _, _, _, _ => by omega
  | .nil, pre, t + 1, a, b, ht, _, _, _, _ => by
    unfold S_measure_3 F_measure_3
    simp only [Cl.enc, br_t, br_f, br_dec, br_not, br_and, br_or, bnd1_mk, bnd2_mk, bnd3_mk, bnd4_mk, bnd5_mk, at_zero, at_succ, at_mid, unInt_mk, unBool_mk, unStr_mk, unBytes_mk, unSl_mk, unAgg_mk, unCons_mk, unNil_mk, endI, if_false]
    simp [Cl.nodes, Cl.dep]
  | .cons o m k r, pre, t + 1, a, b, ht, hn, hw, hl, ha => by
    simp only [Cl.len, Cl.nodes] at ht hn hl ha
    obtain ⟨_, _, hk1, hk2, hr⟩ := hw
    obtain ⟨h1, h2, h3, h4⟩ := stepC pre (ce o m k) r hl
    have ih := measure_loop f n hf x y z K r (pre ++ [ce o m k]) t (a + (k.nodes + 1)) (max b (k.dep + 1)) (by omega) (by omega) hr (by simp; omega) (by omega)
    rw [← mid, ← h3] at ih
    unfold S_measure_3 F_measure_3
    simp only [enc_cons, br_t, br_f, br_dec, br_not, br_and, br_or, bnd1_mk, bnd2_mk, bnd3_mk, bnd4_mk, bnd5_mk, at_zero, at_succ, at_mid, unInt_mk, unBool_mk, unStr_mk, unBytes_mk, unSl_mk, unAgg_mk, unCons_mk, unNil_mk, h1, h2, if_true, Int.toNat_natCast, hf o m k (by omega) hk2 hk1]
    have e1 : IntKind.i64.wrap ((a : Int) + ((k.nodes : Int) + 1)) = ((a + (k.nodes + 1) : Nat) : Int) := by rw [w64 (by omega) (by omega)]; omega
    have e2 : max (b : Int) ((k.dep : Int) + 1) = ((max b (k.dep + 1) : Nat) : Int) := by omega
    rw [e1, e2, ih]
    simp only [Cl.nodes, Cl.dep]
    rw [show max (max b (k.dep + 1)) r.dep = max b (max (k.dep + 1) r.dep) by omega, show a + (k.nodes + 1) + r.nodes = a + (k.nodes + r.nodes + 1) by omega]
theorem measure_eq : ∀ (M : Nat) (o m : Int) (k : Cl), k.nodes < M → k.nodes < N → k.nodes ≤ 1000000000000000 → k.wf → K63 k → s_measure N M o m k.enc = some ((k.nodes : Int) + 1, (k.dep : Int) + 1)
  | 0, o, m, k, h, _, _, _, _ => by omega
  | M + 1, o, m, k, h, hN, hs, hw, hl => by
    have hln := Cl.len_le k
    have hd := Cl.dep_le k
    have hL := measure_loop N (s_measure N M) k.nodes (fun o m k' a1 a2 a3 => measure_eq M o m k' (by omega) (by omega) (by omega) a2 a3) o m k.enc (fun n0 n1 => some (n0, IntKind.i64.wrap (n1 + 1))) k [] N 1 0 (by omega) (Nat.le_refl _) hw (by simpa using hl) (by omega)
    unfold s_measure B_measure
    refine hL.trans ?_
    rw [w64 (by omega) (by omega)]
    congr 2 <;> omega
theorem qnodes_loop {R : Type} (f : Int → Int → List V → Option Int) (n : Nat) (hf : ∀ (o m : Int) (k : Cl), k.nodes < n → k.wf → K63 k → f o m k.enc = some ((k.nodes : Int) + 1)) (x y : Int) (K : Int → Option R) :
    ∀ (l : Cl) (pre : List V) (t : Nat) (a : Nat), l.len < t → l.nodes ≤ n → l.wf → pre.length + l.len ≤ 9223372036854775807 → a + l.nodes ≤ 10000000000000000 →
      S_qnodes_3 N f x y (pre ++ l.enc) t (a : Int) (pre.length : Int) K = K ((a + l.nodes : Nat) : Int)
  | l, pre, 0, a, ht, _, _, _, _ => by omega
  | .nil, pre, t + 1, a, ht, _, _, _, _ => by
    unfold S_qnodes_3 F_qnodes_3
    simp only [Cl.enc, br_t, br_f, br_dec, br_not, br_and, br_or, bnd1_mk, bnd2_mk, bnd3_mk, bnd4_mk, bnd5_mk, at_zero, at_succ, at_mid, unInt_mk, unBool_mk, unStr_mk, unBytes_mk, unSl_mk, unAgg_mk, unCons_mk, unNil_mk, endI, if_false]
    simp [Cl.nodes]
  | .cons o m k r, pre, t + 1, a, ht, hn, hw, hl, ha => by
    simp only [Cl.len, Cl.nodes] at ht hn hl ha
    obtain ⟨_, _, hk1, hk2, hr⟩ := hw
    obtain ⟨h1, h2, h3, h4⟩ := stepC pre (ce o m k) r hl
    have ih := qnodes_loop f n hf x y K r (pre ++ [ce o m k]) t (a + (k.nodes + 1)) (by omega) (by omega) hr (by simp; omega) (by omega)
    rw [← mid, ← h3] at ih
    unfold S_qnodes_3 F_qnodes_3
    simp only [enc_cons, br_t, br_f, br_dec, br_not, br_and, br_or, bnd1_mk, bnd2_mk, bnd3_mk, bnd4_mk, bnd5_mk, at_zero, at_succ, at_mid, unInt_mk, unBool_mk, unStr_mk, unBytes_mk, unSl_mk, unAgg_mk, unCons_mk, unNil_mk, h1, h2, if_true, Int.toNat_natCast, hf o m k (by omega) hk2 hk1]
    have e1 : IntKind.i64.wrap ((a : Int) + ((k.nodes : Int) + 1)) = ((a + (k.nodes + 1) : Nat) : Int) := by rw [w64 (by omega) (by omega)]; omega
    rw [e1, ih]
    simp only [Cl.nodes]
    rw [show a + (k.nodes + 1) + r.nodes = a + (k.nodes + r.nodes + 1) by omega]
theorem qnodes_eq : ∀ (M : Nat) (o m : Int) (k : Cl), k.nodes < M → k.nodes < N → k.nodes ≤ 1000000000000000 → k.wf → K63 k → s_qnodes N M o m k.enc = some ((k.nodes : Int) + 1)
  | 0, o, m, k, h, _, _, _, _ => by omega
  | M + 1, o, m, k, h, hN, hs, hw, hl => by
    have hln := Cl.len_le k
    have hL := qnodes_loop N (s_qnodes N M) k.nodes (fun o m k' a1 a2 a3 => qnodes_eq M o m k' (by omega) (by omega) (by omega) a2 a3) o m (fun n0 => some n0) k [] N 1 (by omega) (Nat.le_refl _) hw (by simpa using hl) (by omega)
    unfold s_qnodes B_qnodes
    refine hL.trans ?_
    congr 1 <;> omega
theorem qdepth_loop {R : Type} (f : Int → Int → List V → Option Int) (n : Nat) (hf : ∀ (o m : Int) (k : Cl), k.nodes < n → k.wf → K63 k → f o m k.enc = some ((k.dep : Int) + 1)) (x y : Int) (K : Int → Option R) :
    ∀ (l : Cl) (pre : List V) (t : Nat) (b : Nat), l.len < t → l.nodes ≤ n → l.wf → pre.length + l.len ≤ 9223372036854775807 →
      S_qdepth_3 N f x y (pre ++ l.enc) t (b : Int) (pre.length : Int) K = K ((max b l.dep : Nat) : Int)
  | l, pre, 0, b, ht, _, _, _ => by omega
  | .nil, pre, t + 1, b, ht, _, _, _ => by
    unfold S_qdepth_3 F_qdepth_3
    simp only [Cl.enc, br_t, br_f, br_dec, br_not, br_and, br_or, bnd1_mk, bnd2_mk, bnd3_mk, bnd4_mk, bnd5_mk, at_zero, at_succ, at_mid, unInt_mk, unBool_mk, unStr_mk, unBytes_mk, unSl_mk, unAgg_mk, unCons_mk, unNil_mk, endI, if_false]
    simp [Cl.dep]
  | .cons o m k r, pre, t + 1, b, ht, hn, hw, hl => by
    simp only [Cl.len, Cl.nodes] at ht hn hl
    obtain ⟨_, _, hk1, hk2, hr⟩ := hw
    obtain ⟨h1, h2, h3, h4⟩ := stepC pre (ce o m k) r hl
    have ih := fun b => qdepth_loop f n hf x y K r (pre ++ [ce o m k]) t b (by omega) (by omega) hr (by simp; omega)
    rw [← mid, ← h3] at ih
    unfold S_qdepth_3 F_qdepth_3
    simp only [enc_cons, br_t, br_f, br_dec, br_not, br_and, br_or, bnd1_mk, bnd2_mk, bnd3_mk, bnd4_mk, bnd5_mk, at_zero, at_succ, at_mid, unInt_mk, unBool_mk, unStr_mk, unBytes_mk, unSl_mk, unAgg_mk, unCons_mk, unNil_mk, h1, h2, if_true, Int.toNat_natCast, hf o m k (by omega) hk2 hk1, Cl.dep]
    by_cases c : (b : Int) < (k.dep : Int) + 1
    · have := ih (k.dep + 1)
      rw [if_pos c, show ((k.dep : Int) + 1) = ((k.dep + 1 : Nat) : Int) by omega, this]
      exact congrArg (fun z : Nat => K (z : Int)) (by omega)
    · rw [if_neg c, ih b]
      exact congrArg (fun z : Nat => K (z : Int)) (by omega)
theorem qdepth_eq : ∀ (M : Nat) (o m : Int) (k : Cl), k.nodes < M → k.nodes < N → k.nodes ≤ 1000000000000000 → k.wf → K63 k → s_qdepth N M o m k.enc = some ((k.dep : Int) + 1)
  | 0, o, m, k, h, _, _, _, _ => by omega
  | M + 1, o, m, k, h, hN, hs, hw, hl => by
    have hln := Cl.len_le k
    have hd := Cl.dep_le k
    have hL := qdepth_loop N (s_qdepth N M) k.nodes (fun o m k' a1 a2 a3 => qdepth_eq M o m k' (by omega) (by omega) (by omega) a2 a3) o m (fun n0 => some (IntKind.i64.wrap (n0 + 1))) k [] N 0 (by omega) (Nat.le_refl _) hw (by simpa using hl)
    unfold s_qdepth B_qdepth
    refine hL.trans ?_
    rw [w64 (by omega) (by omega)]
    congr 1 <;> omega
/-- A condition that came in, small. -/
structure GoodC (N : Nat) (k : Cl) : Prop where
  wf : k.wf
  len : K63 k
  nodes : k.nodes ≤ 1000000000000000
  fuel : k.nodes < N
def chk (o m : Int) (k : Cl) : Int := if vC o m k = true then (if 16 < k.nodes + 1 ∨ 8 < k.dep + 1 then 3 else 0) else 1
theorem aCheck_eq (o m : Int) (k : Cl) (g : GoodC N k) : s_aCheck N o m k.enc = some (chk o m k) := by
  unfold s_aCheck chk
  rw [avalid_eq N N o m k 1 g.fuel g.fuel g.wf g.len, bnd1_mk, br_not]
  cases vC o m k with
  | false => rfl
  | true =>
    simp only [measure_eq N N o m k g.fuel g.fuel g.nodes g.wf g.len, br_t, bnd2_mk, br_dec, if_true]
    by_cases h1 : 16 < k.nodes + 1
    · rw [if_pos (by omega), if_pos (.inl h1)]
    · rw [if_neg (by omega)]
      by_cases h2 : 8 < k.dep + 1
      · rw [if_pos (by omega), if_pos (.inr h2)]
      · rw [if_neg (by omega), if_neg (by omega)]
theorem qCheck_eq (o m : Int) (k : Cl) (g : GoodC N k) : s_qCheck N o m k.enc = some (chk o m k) := by
  unfold s_qCheck chk
  rw [qvalid_ok N N o m k (Nat.le_refl _) g.fuel g.wf g.len, bnd1_mk, br_not]
  cases vC o m k with
  | false => rfl
  | true =>
    simp only [qnodes_eq N N o m k g.fuel g.fuel g.nodes g.wf g.len, qdepth_eq N N o m k g.fuel g.fuel g.nodes g.wf g.len, br_t, bnd1_mk, br_dec, if_true]
    by_cases h1 : 16 < k.nodes + 1
    · rw [if_pos (by omega), if_pos (.inl h1)]
    · rw [if_neg (by omega)]
      by_cases h2 : 8 < k.dep + 1
      · rw [if_pos (by omega), if_pos (.inr h2)]
      · rw [if_neg (by omega), if_neg (by omega)]
theorem chk_zero {o m : Int} {k : Cl} (h : chk o m k = 0) : vC o m k = true ∧ k.nodes ≤ 15 ∧ k.dep ≤ 7 := by
  unfold chk at h
  split at h
  · rename_i hv
    split at h
    · omega
    · exact ⟨hv, by omega, by omega⟩
  · omega
/-! Satisfied -/
theorem IndexFuncN_loop (x : Sec) (f : Int → Int → List V → Int → Int → Int → Int → Option Bool) (n : Nat) (hf : ∀ (o m : Int) (k : Cl), vC o m k = true → k.nodes < n → k.wf → K63 k → f o m k.enc x.p x.k x.s x.l = some (satC x o m k)) :
    ∀ (l : Cl) (pre : List V) (t : Nat), vL l = true → l.len < t → l.nodes ≤ n → l.wf → pre.length + l.len ≤ 9223372036854775807 →
      ∃ i, S_IndexFuncN_2 N f (pre ++ l.enc) ((pre ++ l.enc).length : Int) x.p x.k x.s x.l t (pre.length : Int) (fun n0 => some n0) (some (-1)) = some i ∧ decide (0 ≤ i) = !sq x l true
  | l, pre, 0, _, ht, _, _, _ => by omega
  | .nil, pre, t + 1, _, ht, _, _, _ => by
    unfold S_IndexFuncN_2 F_IndexFuncN_2
    simp only [Cl.enc, br_t, br_f, br_dec, br_not, br_and, br_or, bnd1_mk, bnd2_mk, bnd3_mk, bnd4_mk, bnd5_mk, at_zero, at_succ, at_mid, unInt_mk, unBool_mk, unStr_mk, unBytes_mk, unSl_mk, unAgg_mk, unCons_mk, unNil_mk, endI, if_false]
    exact ⟨-1, rfl, by simp [sq]⟩
  | .cons o m k r, pre, t + 1, hv, ht, hn, hw, hl => by
    simp only [Cl.len, Cl.nodes] at ht hn hl
    rw [vL_cons, Bool.and_eq_true] at hv
    obtain ⟨_, _, hk1, hk2, hr⟩ := hw
    obtain ⟨h1, h2, h3, h4⟩ := stepC pre (ce o m k) r hl
    obtain ⟨i, ih1, ih2⟩ := IndexFuncN_loop x f n hf r (pre ++ [ce o m k]) t hv.2 (by omega) (by omega) hr (by simp; omega)
    rw [← mid, ← h3] at ih1
    unfold S_IndexFuncN_2 F_IndexFuncN_2 s_satno C_satno
    rw [sq_cons]
    simp only [enc_cons, br_t, br_f, br_dec, br_not, br_and, br_or, bnd1_mk, bnd2_mk, bnd3_mk, bnd4_mk, bnd5_mk, at_zero, at_succ, at_mid, unInt_mk, unBool_mk, unStr_mk, unBytes_mk, unSl_mk, unAgg_mk, unCons_mk, unNil_mk, h1, h2, if_true, Int.toNat_natCast, hf o m k hv.1 (by omega) hk2 hk1]
    cases satC x o m k with
    | false => exact ⟨_, rfl, by simp⟩
    | true => exact ⟨i, ih1, by rw [ih2]; rfl⟩
theorem IndexFuncY_loop (x : Sec) (f : Int → Int → List V → Int → Int → Int → Int → Option Bool) (n : Nat) (hf : ∀ (o m : Int) (k : Cl), vC o m k = true → k.nodes < n → k.wf → K63 k → f o m k.enc x.p x.k x.s x.l = some (satC x o m k)) :
    ∀ (l : Cl) (pre : List V) (t : Nat), vL l = true → l.len < t → l.nodes ≤ n → l.wf → pre.length + l.len ≤ 9223372036854775807 →
      ∃ i, S_IndexFuncY_2 N f (pre ++ l.enc) ((pre ++ l.enc).length : Int) x.p x.k x.s x.l t (pre.length : Int) (fun n0 => some n0) (some (-1)) = some i ∧ decide (0 ≤ i) = sq x l false
  | l, pre, 0, _, ht, _, _, _ => by omega
  | .nil, pre, t + 1, _, ht, _, _, _ => by
    unfold S_IndexFuncY_2 F_IndexFuncY_2
    simp only [Cl.enc, br_t, br_f, br_dec, br_not, br_and, br_or, bnd1_mk, bnd2_mk, bnd3_mk, bnd4_mk, bnd5_mk, at_zero, at_succ, at_mid, unInt_mk, unBool_mk, unStr_mk, unBytes_mk, unSl_mk, unAgg_mk, unCons_mk, unNil_mk, endI, if_false]
    exact ⟨-1, rfl, by simp [sq]⟩
  | .cons o m k r, pre, t + 1, hv, ht, hn, hw, hl => by
    simp only [Cl.len, Cl.nodes] at ht hn hl
    rw [vL_cons, Bool.and_eq_true] at hv
    obtain ⟨_, _, hk1, hk2, hr⟩ := hw
    obtain ⟨h1, h2, h3, h4⟩ := stepC pre (ce o m k) r hl
    obtain ⟨i, ih1, ih2⟩ := IndexFuncY_loop x f n hf r (pre ++ [ce o m k]) t hv.2 (by omega) (by omega) hr (by simp; omega)
    rw [← mid, ← h3] at ih1
    unfold S_IndexFuncY_2 F_IndexFuncY_2 s_satyes C_satyes
    rw [sq_cons]
    simp only [enc_cons, br_t, br_f, br_dec, br_not, br_and, br_or, bnd1_mk, bnd2_mk, bnd3_mk, bnd4_mk, bnd5_mk, at_zero, at_succ, at_mid, unInt_mk, unBool_mk, unStr_mk, unBytes_mk, unSl_mk, unAgg_mk, unCons_mk, unNil_mk, h1, h2, if_true, Int.toNat_natCast, hf o m k hv.1 (by omega) hk2 hk1]
    cases satC x o m k with
    | true => exact ⟨_, rfl, by simp⟩
    | false => exact ⟨i, ih1, by rw [ih2]; rfl⟩
theorem asat_eq (x : Sec) : ∀ (M : Nat) (o m : Int) (k : Cl), vC o m k = true → k.nodes < M → k.nodes < N → k.wf → K63 k → s_asat N M o m k.enc x.p x.k x.s x.l = some (satC x o m k)
  | 0, o, m, k, _, h, _, _, _ => by omega
  | M + 1, o, m, k, hv, h, hN, hw, hl => by
    have hln := Cl.len_le k
    have hf := fun (o m : Int) (k' : Cl) (a0 : vC o m k' = true) (a1 : k'.nodes < k.nodes) (a2 : k'.wf) (a3 : K63 k') => asat_eq x M o m k' a0 (by omega) (by omega) a2 a3
    unfold s_asat B_asat satC
    simp only [br_dec]
    have hbit : ∀ (a : Int), 1 ≤ m → m ≤ 8 → decide (bitsI BinOp.and IntKind.i64 (shrI IntKind.i64 a m) 1 = 1) = hasB (bv a) (bv (p2 m.toNat)) := by
      intro a b1 b2
      have := bit_test a (n := m.toNat) (by omega)
      rwa [Int.toNat_of_nonneg (by omega)] at this
    rcases vC_leaf hv with ⟨rfl, _⟩ | ⟨rfl, _⟩ | ⟨rfl, b1, b2, _⟩ | ⟨rfl, b1, b2, _⟩ | ⟨rfl, _⟩ | ⟨rfl, b1, b2, _⟩ | ⟨rfl | rfl, h1, h2, h3⟩
    · simp [satB]
    · simp [satB]
    · simp [satB, hbit _ b1 b2]; omega
    · simp [satB, hbit _ b1 b2]; omega
    · simp [satB]
    · have := level_range b1 b2
      have e := has_iff x.l m (by omega)
      simp [satB, e]
    · obtain ⟨i, i1, i2⟩ := IndexFuncN_loop N x (s_asat N M) k.nodes hf k [] N h3 (by omega) (Nat.le_refl _) hw (by simpa using hl)
      have i1' : S_IndexFuncN_2 N (s_asat N M) k.enc (k.enc.length : Int) x.p x.k x.s x.l N 0 (fun n0 => some n0) (some (-1)) = some i := i1
      unfold s_ContainsFuncN C_ContainsFuncN s_IndexFuncN C_IndexFuncN
      rw [if_pos rfl, i1', if_pos rfl, bnd1_mk]
      show some (!decide (0 ≤ i)) = _
      rw [i2, Bool.not_not]
    · obtain ⟨i, i1, i2⟩ := IndexFuncY_loop N x (s_asat N M) k.nodes hf k [] N h3 (by omega) (Nat.le_refl _) hw (by simpa using hl)
      have i1' : S_IndexFuncY_2 N (s_asat N M) k.enc (k.enc.length : Int) x.p x.k x.s x.l N 0 (fun n0 => some n0) (some (-1)) = some i := i1
      unfold s_ContainsFuncY C_ContainsFuncY s_IndexFuncY C_IndexFuncY
      rw [if_neg (by omega), if_pos rfl, i1', if_neg (by omega), if_pos rfl, bnd1_mk]
      show some (decide (0 ≤ i)) = _
      rw [i2]
theorem qsat_loopN (x : Sec) (f : Int → Int → List V → Int → Int → Int → Int → Option Bool) (n : Nat) (hf : ∀ (o m : Int) (k : Cl), vC o m k = true → k.nodes < n → k.wf → K63 k → f o m k.enc x.p x.k x.s x.l = some (satC x o m k)) (y z : Int) :
    ∀ (l : Cl) (pre : List V) (t : Nat), vL l = true → l.len < t → l.nodes ≤ n → l.wf → pre.length + l.len ≤ 9223372036854775807 →
      S_qsatisfied_14 N f y z (pre ++ l.enc) x.p x.k x.s x.l t (pre.length : Int) (fun b => some b) (some true) = some (sq x l true)
  | l, pre, 0, _, ht, _, _, _ => by omega
  | .nil, pre, t + 1, _, ht, _, _, _ => by
    unfold S_qsatisfied_14 F_qsatisfied_14
    simp only [Cl.enc, br_t, br_f, br_dec, br_not, br_and, br_or, bnd1_mk, bnd2_mk, bnd3_mk, bnd4_mk, bnd5_mk, at_zero, at_succ, at_mid, unInt_mk, unBool_mk, unStr_mk, unBytes_mk, unSl_mk, unAgg_mk, unCons_mk, unNil_mk, endI, if_false, sq]
  | .cons o m k r, pre, t + 1, hv, ht, hn, hw, hl => by
    simp only [Cl.len, Cl.nodes] at ht hn hl
    rw [vL_cons, Bool.and_eq_true] at hv
    obtain ⟨_, _, hk1, hk2, hr⟩ := hw
    obtain ⟨h1, h2, h3, h4⟩ := stepC pre (ce o m k) r hl
    have ih := qsat_loopN x f n hf y z r (pre ++ [ce o m k]) t hv.2 (by omega) (by omega) hr (by simp; omega)
    rw [← mid, ← h3] at ih
    unfold S_qsatisfied_14 F_qsatisfied_14
    rw [sq_cons]
    simp only [enc_cons, br_t, br_f, br_dec, br_not, br_and, br_or, bnd1_mk, bnd2_mk, bnd3_mk, bnd4_mk, bnd5_mk, at_zero, at_succ, at_mid, unInt_mk, unBool_mk, unStr_mk, unBytes_mk, unSl_mk, unAgg_mk, unCons_mk, unNil_mk, h1, h2, if_true, Int.toNat_natCast, hf o m k hv.1 (by omega) hk2 hk1]
    cases satC x o m k with
    | false => rfl
    | true => rw [br_t, ih]; rfl
theorem qsat_loopY (x : Sec) (f : Int → Int → List V → Int → Int → Int → Int → Option Bool) (n : Nat) (hf : ∀ (o m : Int) (k : Cl), vC o m k = true → k.nodes < n → k.wf → K63 k → f o m k.enc x.p x.k x.s x.l = some (satC x o m k)) (y z : Int) :
    ∀ (l : Cl) (pre : List V) (t : Nat), vL l = true → l.len < t → l.nodes ≤ n → l.wf → pre.length + l.len ≤ 9223372036854775807 →
      S_qsatisfied_21 N f y z (pre ++ l.enc) x.p x.k x.s x.l t (pre.length : Int) (fun b => some b) (some false) = some (sq x l false)
  | l, pre, 0, _, ht, _, _, _ => by omega
  | .nil, pre, t + 1, _, ht, _, _, _ => by
    unfold S_qsatisfied_21 F_qsatisfied_21
    simp only [Cl.enc, br_t, br_f, br_dec, br_not, br_and, br_or, bnd1_mk, bnd2_mk, bnd3_mk, bnd4_mk, bnd5_mk, at_zero, at_succ, at_mid, unInt_mk, unBool_mk, unStr_mk, unBytes_mk, unSl_mk, unAgg_mk, unCons_mk, unNil_mk, endI, if_false, sq]
  | .cons o m k r, pre, t + 1, hv, ht, hn, hw, hl => by
    simp only [Cl.len, Cl.nodes] at ht hn hl
    rw [vL_cons, Bool.and_eq_true] at hv
    obtain ⟨_, _, hk1, hk2, hr⟩ := hw
    obtain ⟨h1, h2, h3, h4⟩ := stepC pre (ce o m k) r hl
    have ih := qsat_loopY x f n hf y z r (pre ++ [ce o m k]) t hv.2 (by omega) (by omega) hr (by simp; omega)
    rw [← mid, ← h3] at ih
    unfold S_qsatisfied_21 F_qsatisfied_21
    rw [sq_cons]
    simp only [enc_cons, br_t, br_f, br_dec, br_not, br_and, br_or, bnd1_mk, bnd2_mk, bnd3_mk, bnd4_mk, bnd5_mk, at_zero, at_succ, at_mid, unInt_mk, unBool_mk, unStr_mk, unBytes_mk, unSl_mk, unAgg_mk, unCons_mk, unNil_mk, h1, h2, if_true, Int.toNat_natCast, hf o m k hv.1 (by omega) hk2 hk1]
    cases satC x o m k with
    | true => rfl
    | false => rw [br_f, ih]; rfl
theorem wu64 {n : Int} (h1 : 0 ≤ n) (h2 : n ≤ 9223372036854775807) : IntKind.u64.wrap n = n := by
  rw [IntKind.wrap_u64]; omega
theorem qsat_eq (x : Sec) : ∀ (M : Nat) (o m : Int) (k : Cl), vC o m k = true → k.nodes < M → k.nodes < N → k.wf → K63 k → s_qsatisfied N M o m k.enc x.p x.k x.s x.l = some (satC x o m k)
  | 0, o, m, k, _, h, _, _, _ => by omega
  | M + 1, o, m, k, hv, h, hN, hw, hl => by
    have hln := Cl.len_le k
    have hf := fun (o m : Int) (k' : Cl) (a0 : vC o m k' = true) (a1 : k'.nodes < k.nodes) (a2 : k'.wf) (a3 : K63 k') => qsat_eq x M o m k' a0 (by omega) (by omega) a2 a3
    unfold s_qsatisfied B_qsatisfied satC
    simp only [br_dec, s_qhas, bnd1_mk]
    have hbit : ∀ (a : Int), 1 ≤ m → m ≤ 8 → decide (bitsI BinOp.and IntKind.i64 a (shlI IntKind.i64 1 (IntKind.u64.wrap m)) = shlI IntKind.i64 1 (IntKind.u64.wrap m)) = hasB (bv a) (bv (p2 m.toNat)) := by
      intro a b1 b2
      have e := shl1 (n := m.toNat) (by omega)
      have r := p2_range (n := m.toNat) (by omega)
      rw [Int.toNat_of_nonneg (by omega)] at e
      rw [wu64 (by omega) (by omega), e]
      exact has_iff a _ (by omega)
    rcases vC_leaf hv with ⟨rfl, _⟩ | ⟨rfl, _⟩ | ⟨rfl, b1, b2, _⟩ | ⟨rfl, b1, b2, _⟩ | ⟨rfl, _⟩ | ⟨rfl, b1, b2, _⟩ | ⟨rfl | rfl, h1, h2, h3⟩
    · simp [satB]
    · simp [satB]
    · simp only [hbit _ b1 b2]
      rw [wu64 (by omega) (by omega)]
      simp [satB]; omega
    · simp only [hbit _ b1 b2]
      rw [wu64 (by omega) (by omega)]
      simp [satB]; omega
    · simp [satB]
    · have := level_range b1 b2
      have e := has_iff x.l m (by omega)
      simp [satB, e]
    · have hL := qsat_loopN N x (s_qsatisfied N M) k.nodes hf 6 m k [] N h3 (by omega) (Nat.le_refl _) hw (by simpa using hl)
      simp
      exact hL
    · have hL := qsat_loopY N x (s_qsatisfied N M) k.nodes hf 7 m k [] N h3 (by omega) (Nat.le_refl _) hw (by simpa using hl)
      simp
      exact hL
def holdsP (x : Sec) (o m : Int) (k : Cl) : Bool := decide (chk o m k = 0) && satC x o m k
theorem aHolds_eq (x : Sec) (o m : Int) (k : Cl) (g : GoodC N k) : s_aHolds N o m k.enc x.p x.k x.s x.l = some (holdsP x o m k) := by
  unfold s_aHolds holdsP
  rw [aCheck_eq N o m k g, bnd1_mk, br_dec]
  by_cases hc : chk o m k = 0
  · rw [if_pos hc, asat_eq N x N o m k (chk_zero hc).1 g.fuel g.fuel g.wf g.len]
    simp [hc, bnd1_mk]
  · rw [if_neg hc]; simp [hc]
end
end Go.Proofs.YtahemenhcoedgaaDoor.En

/- Rules: which are small, which are valid, what they permit: the program and the reference. -/
namespace Go.Proofs.YtahemenhcoedgaaDoor.En
open Go
set_option linter.unusedVariables false
/-- All of the list are small. -/
def fewL : Cl → Bool
  | .nil => true
  | .cons o m k r => decide (k.nodes ≤ 199) && fewL r
/-- A rule. -/
structure Ru where
  ops : Int
  o : Int
  m : Int
  k : Cl
  deriving DecidableEq
def Ru.enc (r : Ru) : V := .agg [.int .i64 r.ops, .int .i64 r.o, .int .i64 r.m, .sl 24 r.k.enc]
def rE : List Ru → List V
  | [] => []
  | r :: l => .agg [.int .i64 r.ops, .int .i64 r.o, .int .i64 r.m, .sl 24 r.k.enc] :: rE l
theorem rE_len : ∀ l : List Ru, (rE l).length = l.length
  | [] => rfl
  | r :: l => by simp [rE, rE_len l]
theorem stepR (pre : List V) (x : V) (r : List Ru) (h : pre.length + (r.length + 1) ≤ 9223372036854775807) :
    (pre.length : Int) < ((pre ++ x :: rE r).length : Int) ∧ (0 : Int) ≤ pre.length ∧ IntKind.i64.wrap ((pre.length : Int) + 1) = ((pre ++ [x]).length : Int) ∧ ((pre ++ x :: rE r).length : Int) = (((pre ++ [x]) ++ rE r).length : Int) :=
  stepI pre x (rE r) (by rw [rE_len]; exact h)
def chkRL : List Ru → Int
  | [] => 0
  | r :: l => if r.ops < 1 ∨ 255 < r.ops then 1 else if chk r.o r.m r.k = 0 then chkRL l else chk r.o r.m r.k
def chkR (l : List Ru) : Int := if 8 < l.length then 3 else chkRL l
section
variable (N : Nat)
/-- A rule's condition that came in. -/
structure InC (N : Nat) (k : Cl) : Prop where
  wf : k.wf
  len : K63 k
  fuel : k.nodes < N
theorem InC.good {k : Cl} (h : InC N k) (hn : k.nodes ≤ 1000000000000000) : GoodC N k := ⟨h.wf, h.len, hn, h.fuel⟩
theorem lfew_loop {R : Type} (K0 : Bool → Option R) (K1 : Option R) : ∀ (l : Cl) (pre : List V) (t : Nat), l.len < t → l.nodes < N → l.wf → pre.length + l.len ≤ 9223372036854775807 →
      S_lfew_2 N (pre ++ l.enc) t (pre.length : Int) K0 K1 = if fewL l = true then K1 else K0 false
  | l, pre, 0, ht, _, _, _ => by omega
  | .nil, pre, t + 1, ht, _, _, _ => by
    unfold S_lfew_2 F_lfew_2
    simp only [Cl.enc, br_t, br_f, br_dec, br_not, br_and, br_or, bnd1_mk, bnd2_mk, bnd3_mk, bnd4_mk, bnd5_mk, at_zero, at_succ, at_mid, unInt_mk, unBool_mk, unStr_mk, unBytes_mk, unSl_mk, unAgg_mk, unCons_mk, unNil_mk, endI, if_false, fewL, if_true]
  | .cons o m k r, pre, t + 1, ht, hn, hw, hl => by
    simp only [Cl.len, Cl.nodes] at ht hn hl
    obtain ⟨_, _, hk1, hk2, hr⟩ := hw
    obtain ⟨h1, h2, h3, h4⟩ := stepC pre (ce o m k) r hl
    have ih := lfew_loop K0 K1 r (pre ++ [ce o m k]) t (by omega) (by omega) hr (by simp; omega)
    rw [← mid, ← h3] at ih
    unfold S_lfew_2 F_lfew_2
    simp only [enc_cons, br_t, br_f, br_dec, br_not, br_and, br_or, bnd1_mk, bnd2_mk, bnd3_mk, bnd4_mk, bnd5_mk, at_zero, at_succ, at_mid, unInt_mk, unBool_mk, unStr_mk, unBytes_mk, unSl_mk, unAgg_mk, unCons_mk, unNil_mk, h1, h2, if_true, Int.toNat_natCast, left_ok N N o m k 200 (Nat.le_refl _) (by omega) hk2 hk1 (by omega) (by omega), ih]
    obtain ⟨n1, n2⟩ := lfl_nodes k 199 (by omega)
    by_cases c : (k.nodes : Int) ≤ 199
    · rw [show (200 : Int) - 1 = 199 by omega, n1 c, if_neg (by omega)]
      have ef : fewL (.cons o m k r) = fewL r := by
        conv => lhs; unfold fewL
        rw [decide_eq_true (by omega : k.nodes ≤ 199)]; rfl
      rw [ef]
    · rw [show (200 : Int) - 1 = 199 by omega, n2 (by omega), if_pos (by omega)]
      have ef : fewL (.cons o m k r) = false := by unfold fewL; rw [decide_eq_false (by omega : ¬ k.nodes ≤ 199)]; rfl
      rw [if_neg (by rw [ef]; decide)]
theorem lfew_eq (l : Cl) (h : l.nodes < N) (hw : l.wf) (hl : K63 l) : s_lfew N l.enc = some (fewL l) := by
  have hln := Cl.len_le l
  have hL := lfew_loop N (fun b => some b) (some true) l [] N (by omega) h hw (by simpa using hl)
  unfold s_lfew
  refine hL.trans ?_
  cases fewL l <;> rfl
theorem aCheckRules_loop {R : Type} (K0 : Int → Option R) (K1 : Option R) : ∀ (l : List Ru) (pre : List V) (t : Nat), l.length < t → (∀ r ∈ l, GoodC N r.k) → pre.length + l.length ≤ 9223372036854775807 →
      S_aCheckRules_4 N (pre ++ rE l) ((pre ++ rE l).length : Int) t (pre.length : Int) K0 K1 = if chkRL l = 0 then K1 else K0 (chkRL l)
  | l, pre, 0, ht, _, _ => by omega
  | [], pre, t + 1, ht, _, _ => by
    unfold S_aCheckRules_4 F_aCheckRules_4
    simp only [rE, br_t, br_f, br_dec, br_not, br_and, br_or, bnd1_mk, bnd2_mk, bnd3_mk, bnd4_mk, bnd5_mk, at_zero, at_succ, at_mid, unInt_mk, unBool_mk, unStr_mk, unBytes_mk, unSl_mk, unAgg_mk, unCons_mk, unNil_mk, endI, if_false, chkRL, if_true]
  | r :: l, pre, t + 1, ht, hg, hl => by
    simp only [List.length_cons] at ht hl
    obtain ⟨h1, h2, h3, h4⟩ := stepR pre (.agg [.int .i64 r.ops, .int .i64 r.o, .int .i64 r.m, .sl 24 r.k.enc]) l hl
    have ih := aCheckRules_loop K0 K1 l (pre ++ [.agg [.int .i64 r.ops, .int .i64 r.o, .int .i64 r.m, .sl 24 r.k.enc]]) t (by omega) (fun r hr => hg r (by simp [hr])) (by simp; omega)
    rw [← mid, ← h3] at ih
    unfold S_aCheckRules_4 F_aCheckRules_4
    simp only [rE, br_t, br_f, br_dec, br_not, br_and, br_or, bnd1_mk, bnd2_mk, bnd3_mk, bnd4_mk, bnd5_mk, at_zero, at_succ, at_mid, unInt_mk, unBool_mk, unStr_mk, unBytes_mk, unSl_mk, unAgg_mk, unCons_mk, unNil_mk, h1, h2, if_true, Int.toNat_natCast, aCheck_eq N r.o r.m r.k (hg r (by simp)), ih]
    have ec : chkRL (r :: l) = if r.ops < 1 ∨ 255 < r.ops then 1 else if chk r.o r.m r.k = 0 then chkRL l else chk r.o r.m r.k := rfl
    by_cases c1 : r.ops < 1
    · have e : chkRL (r :: l) = 1 := by rw [ec, if_pos (.inl c1)]
      rw [if_pos c1, e, if_neg (by omega)]
    rw [if_neg c1]
    by_cases c2 : 255 < r.ops
    · have e : chkRL (r :: l) = 1 := by rw [ec, if_pos (.inr c2)]
      rw [if_pos c2, e, if_neg (by omega)]
    rw [if_neg c2]
    by_cases c3 : chk r.o r.m r.k = 0
    · have e : chkRL (r :: l) = chkRL l := by rw [ec, if_neg (by omega), if_pos c3]
      rw [if_pos c3, e]
    · have e : chkRL (r :: l) = chk r.o r.m r.k := by rw [ec, if_neg (by omega), if_neg c3]
      rw [if_neg c3, e, if_neg c3]
/-- Rules that came in, few and small; or rules that were read. -/
structure GoodR (N : Nat) (l : List Ru) : Prop where
  len : l.length ≤ 1000
  fuel : 1000 < N
  good : ∀ r ∈ l, GoodC N r.k
theorem aCheckRules_eq (l : List Ru) (g : GoodR N l) : s_aCheckRules N (rE l) = some (chkR l) := by
  have h1 := g.len
  have h2 := g.fuel
  have hL : S_aCheckRules_4 N (rE l) ((rE l).length : Int) N 0 (fun n0 => some n0) (some 0) = if chkRL l = 0 then some 0 else some (chkRL l) :=
    aCheckRules_loop N (fun n0 => some n0) (some 0) l [] N (by omega) g.good (by simp; omega)
  unfold s_aCheckRules chkR
  rw [hL, rE_len, br_dec]
  by_cases c : 8 < l.length
  · rw [if_pos (by omega), if_pos c]
  · rw [if_neg (by omega), if_neg c]
    by_cases c2 : chkRL l = 0
    · rw [if_pos c2, c2]
    · rw [if_neg c2]
theorem chkRL_zero : ∀ {l : List Ru}, chkRL l = 0 → ∀ r ∈ l, 1 ≤ r.ops ∧ r.ops ≤ 255 ∧ chk r.o r.m r.k = 0
  | [], _, r, hr => by simp at hr
  | a :: l, h, r, hr => by
    unfold chkRL at h
    split at h
    · omega
    · split at h
      · rename_i c1 c2
        rcases List.mem_cons.1 hr with rfl | hr
        · exact ⟨by omega, by omega, c2⟩
        · exact chkRL_zero h r hr
      · rename_i c1 c2; exact absurd h c2
theorem chkR_zero {l : List Ru} (h : chkR l = 0) : l.length ≤ 8 ∧ ∀ r ∈ l, 1 ≤ r.ops ∧ r.ops ≤ 255 ∧ vC r.o r.m r.k = true ∧ r.k.nodes ≤ 15 ∧ r.k.dep ≤ 7 := by
  unfold chkR at h
  split at h
  · omega
  · rename_i c
    refine ⟨by omega, fun r hr => ?_⟩
    obtain ⟨h1, h2, h3⟩ := chkRL_zero h r hr
    obtain ⟨h4, h5, h6⟩ := chk_zero h3
    exact ⟨h1, h2, h4, h5, h6⟩
/-! What is permitted -/
def single (op : Int) : Bool := decide (op = 1) || decide (op = 2) || decide (op = 4) || decide (op = 8) || decide (op = 16) || decide (op = 32) || decide (op = 64) || decide (op = 128)
def permL (x : Sec) (op : Int) : List Ru → Bool
  | [] => false
  | r :: l => decide (bitsI BinOp.and IntKind.i64 r.ops op = op) && satC x r.o r.m r.k || permL x op l
def perm (x : Sec) (op : Int) (l : List Ru) : Bool := decide (chkR l = 0) && (single op && permL x op l)
theorem br_lt {R : Type} (a b : Int) (x y : Option R) : br (decide (a < b)) x y = if a < b then x else y := br_dec _ x y
theorem br_le {R : Type} (a b : Int) (x y : Option R) : br (decide (a ≤ b)) x y = if a ≤ b then x else y := br_dec _ x y
end
end Go.Proofs.YtahemenhcoedgaaDoor.En

/- Which conditions imply which: the program. -/
namespace Go.Proofs.YtahemenhcoedgaaDoor.En
open Go
set_option linter.unusedVariables false
def sE : List Sec → List V
  | [] => []
  | x :: l => .agg [.int .i64 x.p, .int .i64 x.k, .int .i64 x.s, .int .i64 x.l] :: sE l
abbrev se (x : Sec) : V := .agg [.int .i64 x.p, .int .i64 x.k, .int .i64 x.s, .int .i64 x.l]
theorem sE_cons (x : Sec) (l : List Sec) : sE (x :: l) = se x :: sE l := rfl
theorem sE_len : ∀ l : List Sec, (sE l).length = l.length
  | [] => rfl
  | r :: l => by simp [sE, sE_len l]
theorem sE_append : ∀ a b : List Sec, sE (a ++ b) = sE a ++ sE b
  | [], b => rfl
  | r :: a, b => by simp [sE, sE_append a b]
theorem stepS (pre : List V) (x : V) (r : List Sec) (h : pre.length + (r.length + 1) ≤ 9223372036854775807) :
    (pre.length : Int) < ((pre ++ x :: sE r).length : Int) ∧ (0 : Int) ≤ pre.length ∧ IntKind.i64.wrap ((pre.length : Int) + 1) = ((pre ++ [x]).length : Int) ∧ ((pre ++ x :: sE r).length : Int) = (((pre ++ [x]) ++ sE r).length : Int) :=
  stepI pre x (sE r) (by rw [sE_len]; exact h)
section
variable (N : Nat)
theorem IndexS_loop (s : Sec) : ∀ (l : List Sec) (pre : List V) (t : Nat), l.length < t → pre.length + l.length ≤ 9223372036854775807 →
      ∃ i, S_IndexS_2 N (pre ++ sE l) ((pre ++ sE l).length : Int) s.p s.k s.s s.l t (pre.length : Int) (fun n0 => some n0) (some (-1)) = some i ∧ decide (0 ≤ i) = decide (s ∈ l)
  | l, pre, 0, ht, _ => by omega
  | [], pre, t + 1, ht, _ => by
    unfold S_IndexS_2 F_IndexS_2
    simp only [sE, br_t, br_f, br_dec, br_not, br_and, br_or, bnd1_mk, bnd2_mk, bnd3_mk, bnd4_mk, bnd5_mk, at_zero, at_succ, at_mid, unInt_mk, unBool_mk, unStr_mk, unBytes_mk, unSl_mk, unAgg_mk, unCons_mk, unNil_mk, endI, if_false]
    exact ⟨-1, rfl, by simp⟩
  | x :: l, pre, t + 1, ht, hl => by
    simp only [List.length_cons] at ht hl
    obtain ⟨h1, h2, h3, h4⟩ := stepS pre (se x) l hl
    obtain ⟨i, ih1, ih2⟩ := IndexS_loop s l (pre ++ [se x]) t (by omega) (by simp; omega)
    rw [← mid, ← h3] at ih1
    unfold S_IndexS_2 F_IndexS_2
    have e : (decide (s.p = x.p) && (decide (s.k = x.k) && (decide (s.s = x.s) && (decide (s.l = x.l) && true)))) = decide (s = x) := by
      obtain ⟨a, b, c, d⟩ := s
      obtain ⟨a', b', c', d'⟩ := x
      rw [Bool.eq_iff_iff]; simp
    simp only [sE_cons, br_lt, br_le, decide_true, br_t, at_mid, unInt_mk, unAgg_mk, unCons_mk, unNil_mk, br_and, h1, h2, if_true, Int.toNat_natCast]
    have e2 : br (decide (s.p = x.p)) (br (decide (s.k = x.k)) (br (decide (s.s = x.s)) (br (decide (s.l = x.l)) (some (pre.length : Int)) (S_IndexS_2 N (pre ++ se x :: sE l) ((pre ++ se x :: sE l).length : Int) s.p s.k s.s s.l t (IntKind.i64.wrap ((pre.length : Int) + 1)) (fun n0 => some n0) (some (-1)))) (S_IndexS_2 N (pre ++ se x :: sE l) ((pre ++ se x :: sE l).length : Int) s.p s.k s.s s.l t (IntKind.i64.wrap ((pre.length : Int) + 1)) (fun n0 => some n0) (some (-1)))) (S_IndexS_2 N (pre ++ se x :: sE l) ((pre ++ se x :: sE l).length : Int) s.p s.k s.s s.l t (IntKind.i64.wrap ((pre.length : Int) + 1)) (fun n0 => some n0) (some (-1)))) (S_IndexS_2 N (pre ++ se x :: sE l) ((pre ++ se x :: sE l).length : Int) s.p s.k s.s s.l t (IntKind.i64.wrap ((pre.length : Int) + 1)) (fun n0 => some n0) (some (-1))) = if s = x then some (pre.length : Int) else S_IndexS_2 N (pre ++ se x :: sE l) ((pre ++ se x :: sE l).length : Int) s.p s.k s.s s.l t (IntKind.i64.wrap ((pre.length : Int) + 1)) (fun n0 => some n0) (some (-1)) := by
      generalize S_IndexS_2 N (pre ++ se x :: sE l) ((pre ++ se x :: sE l).length : Int) s.p s.k s.s s.l t (IntKind.i64.wrap ((pre.length : Int) + 1)) (fun n0 => some n0) (some (-1)) = z
      by_cases c : s = x
      · rw [if_pos c, c]; simp [br]
      · rw [if_neg c]
        have : (decide (s.p = x.p) && (decide (s.k = x.k) && (decide (s.s = x.s) && (decide (s.l = x.l) && true)))) = false := by rw [e]; simpa using c
        revert this
        cases decide (s.p = x.p) <;> cases decide (s.k = x.k) <;> cases decide (s.s = x.s) <;> cases decide (s.l = x.l) <;> simp [br]
    rw [e2]
    by_cases c : s = x
    · rw [if_pos c]; exact ⟨_, rfl, by simp [c]⟩
    · rw [if_neg c]; exact ⟨i, ih1, by rw [ih2]; simp [c]⟩
theorem ContainsS_eq (s : Sec) (l : List Sec) (h : l.length < N) (hl : l.length ≤ 9223372036854775807) : s_ContainsS N (sE l) s.p s.k s.s s.l = some (decide (s ∈ l)) := by
  obtain ⟨i, i1, i2⟩ := IndexS_loop N s l [] N h (by simpa using hl)
  have i1' : S_IndexS_2 N (sE l) ((sE l).length : Int) s.p s.k s.s s.l N 0 (fun n0 => some n0) (some (-1)) = some i := i1
  unfold s_ContainsS s_IndexS
  rw [i1', bnd1_mk, i2]
theorem join_eq (x y : Sec) : s_join N x.p x.k x.s x.l y.p y.k y.s y.l = some ((x.join y).p, (x.join y).k, (x.join y).s, (x.join y).l) := rfl
theorem least30_loop {R : Type} (hN : 200000 < N) (f : Int → Int → List V → Option (List V)) (x : Sec) (K : List V → Option R) (a1 a2 a5 a13 a16 : List V) (b3 b4 b6 b7 b11 b12 b14 b15 : Int) : ∀ (ys : List Sec) (pre : List V) (t : Nat) (next : List Sec), ys.length < t → pre.length + ys.length ≤ 9223372036854775807 → next.length + ys.length ≤ 100000 →
      S_least_30 N f a1 a2 b3 b4 a5 b6 b7 (pre ++ sE ys) ((pre ++ sE ys).length : Int) b11 b12 a13 b14 b15 a16 x.p x.k x.s x.l t (sE next) (pre.length : Int) K = K (sE (prod1 x next ys))
  | ys, pre, 0, next, ht, _, _ => by omega
  | [], pre, t + 1, next, ht, _, _ => by
    unfold S_least_30 F_least_30
    simp only [sE, br_t, br_f, br_dec, br_not, br_and, br_or, bnd1_mk, bnd2_mk, bnd3_mk, bnd4_mk, bnd5_mk, at_zero, at_succ, at_mid, unInt_mk, unBool_mk, unStr_mk, unBytes_mk, unSl_mk, unAgg_mk, unCons_mk, unNil_mk, endI, if_false, prod1]
  | y :: ys, pre, t + 1, next, ht, hl, hn => by
    simp only [List.length_cons] at ht hl hn
    obtain ⟨h1, h2, h3, h4⟩ := stepS pre (se y) ys hl
    have ih := fun next hn => least30_loop hN f x K a1 a2 a5 a13 a16 b3 b4 b6 b7 b11 b12 b14 b15 ys (pre ++ [se y]) t next (by omega) (by simp; omega) hn
    rw [← mid, ← h3] at ih
    unfold S_least_30 F_least_30
    simp only [sE_cons, br_t, br_f, br_dec, br_not, br_and, br_or, bnd1_mk, bnd2_mk, bnd3_mk, bnd4_mk, bnd5_mk, at_zero, at_succ, at_mid, unInt_mk, unBool_mk, unStr_mk, unBytes_mk, unSl_mk, unAgg_mk, unCons_mk, unNil_mk, h1, h2, if_true, Int.toNat_natCast, join_eq, ContainsS_eq N (x.join y) next (by omega) (by omega), prod1, addS]
    by_cases c : x.join y ∈ next
    · rw [if_pos c, ih next (by omega), if_pos c]
    · have hlen : ((sE next).length + [V.agg [V.int IntKind.i64 (x.join y).p, V.int IntKind.i64 (x.join y).k, V.int IntKind.i64 (x.join y).s, V.int IntKind.i64 (x.join y).l]].length) * 32 ≤ 140737488355328 := by
        rw [sE_len]; simp; omega
      have e : sE next ++ [V.agg [V.int IntKind.i64 (x.join y).p, V.int IntKind.i64 (x.join y).k, V.int IntKind.i64 (x.join y).s, V.int IntKind.i64 (x.join y).l]] = sE (next ++ [x.join y]) := by rw [sE_append]; rfl
      rw [if_neg c, if_pos hlen, e, ih (next ++ [x.join y]) (by simp; omega), if_neg c]
theorem least27_loop {R : Type} (hN : 200000 < N) (f : Int → Int → List V → Option (List V)) (ys : List Sec) (K : List V → Option R) (a2 a10 a13 : List V) (b3 b4 b8 b9 b11 b12 : Int) : ∀ (xs : List Sec) (pre : List V) (t : Nat) (next : List Sec), xs.length < t → pre.length + xs.length ≤ 9223372036854775807 → next.length + xs.length * ys.length ≤ 100000 → ys.length ≤ 100000 →
      S_least_27 N f (sE ys) a2 b3 b4 (pre ++ sE xs) ((pre ++ sE xs).length : Int) b8 b9 a10 b11 b12 a13 t (sE next) (pre.length : Int) K = K (sE (prod ys next xs))
  | xs, pre, 0, next, ht, _, _, _ => by omega
  | [], pre, t + 1, next, ht, _, _, _ => by
    unfold S_least_27 F_least_27
    simp only [sE, br_t, br_f, br_dec, br_not, br_and, br_or, bnd1_mk, bnd2_mk, bnd3_mk, bnd4_mk, bnd5_mk, at_zero, at_succ, at_mid, unInt_mk, unBool_mk, unStr_mk, unBytes_mk, unSl_mk, unAgg_mk, unCons_mk, unNil_mk, endI, if_false, prod]
  | x :: xs, pre, t + 1, next, ht, hl, hn, hy => by
    simp only [List.length_cons, Nat.succ_mul] at ht hl hn
    obtain ⟨h1, h2, h3, h4⟩ := stepS pre (se x) xs hl
    have hp := len_prod1 x ys next
    have ih := least27_loop hN f ys K a2 a10 a13 b3 b4 b8 b9 b11 b12 xs (pre ++ [se x]) t (prod1 x next ys) (by omega) (by simp; omega) (by omega) hy
    rw [← mid, ← h3] at ih
    unfold S_least_27 F_least_27
    have h30 := fun (K : List V → Option R) (b6 b7 b11 b12 b14 b15 : Int) (a5 a13 a16 : List V) => least30_loop N hN f x K (sE ys) a2 a5 a13 a16 b3 b4 b6 b7 b11 b12 b14 b15 ys [] N next (by omega) (by simp; omega) (by omega)
    simp only [List.nil_append, List.length_nil, Int.natCast_zero] at h30
    have h30' : ∀ (K : List V → Option R) (b6 b7 b11 b12 b14 b15 : Int) (a5 a13 a16 : List V), S_least_30 N f (sE ys) a2 b3 b4 a5 b6 b7 (sE ys) ((sE ys).length : Int) b11 b12 a13 b14 b15 a16 x.p x.k x.s x.l N (sE next) 0 K = K (sE (prod1 x next ys)) := h30
    simp only [sE_cons, br_t, br_f, br_dec, br_not, br_and, br_or, bnd1_mk, bnd2_mk, bnd3_mk, bnd4_mk, bnd5_mk, at_zero, at_succ, at_mid, unInt_mk, unBool_mk, unStr_mk, unBytes_mk, unSl_mk, unAgg_mk, unCons_mk, unNil_mk, h1, h2, if_true, Int.toNat_natCast, h30', prod]
    exact ih
theorem least23_loop {R : Type} (hN : 200000 < N) (f : Int → Int → List V → Option (List V)) (n : Nat) (hf : ∀ (o m : Int) (k : Cl), vC o m k = true → k.nodes < n → k.wf → K63 k → f o m k.enc = some (sE (lC o m k))) (K : List V → Option R) (a6 : List V) (b4 b5 : Int) : ∀ (l : Cl) (pre : List V) (t : Nat) (out : List Sec), vL l = true → l.len < t → l.nodes ≤ n → l.wf → pre.length + l.len ≤ 9223372036854775807 → out.length * 2 ^ l.nodes ≤ 100000 → out.length ≤ 100000 → l.nodes ≤ 16 →
      S_least_23 N f (pre ++ l.enc) ((pre ++ l.enc).length : Int) b4 b5 a6 t (sE out) (pre.length : Int) K = K (sE (lq l true out))
  | l, pre, 0, out, _, ht, _, _, _, _, _, _ => by omega
  | .nil, pre, t + 1, out, _, ht, _, _, _, _, _, _ => by
    unfold S_least_23 F_least_23
    simp only [Cl.enc, br_t, br_f, br_dec, br_not, br_and, br_or, bnd1_mk, bnd2_mk, bnd3_mk, bnd4_mk, bnd5_mk, at_zero, at_succ, at_mid, unInt_mk, unBool_mk, unStr_mk, unBytes_mk, unSl_mk, unAgg_mk, unCons_mk, unNil_mk, endI, if_false, lq]
  | .cons o m k r, pre, t + 1, out, hv, ht, hn, hw, hl, hb, ho, h16 => by
    simp only [Cl.len, Cl.nodes] at ht hn hl hb h16
    rw [vL_cons, Bool.and_eq_true] at hv
    obtain ⟨_, _, hk1, hk2, hr⟩ := hw
    obtain ⟨h1, h2, h3, h4⟩ := stepC pre (ce o m k) r hl
    have hp2 : 2 ^ k.nodes ≤ 2 ^ 15 := Nat.pow_le_pow_right (by omega) (by omega)
    have hlc : (lC o m k).length ≤ 2 ^ k.nodes := by
      have hk := len_lq k [zeroS]
      have hk2 := len_lq k []
      have hp : 1 ≤ 2 ^ k.nodes := Nat.one_le_two_pow
      unfold lC
      split
      · simpa using hk.1
      split
      · simpa using hk2.2
      · exact Nat.le_trans (len_base o m) hp
    have hpr := len_prod out (lC o m k) []
    have hmul : (lC o m k).length * out.length ≤ 2 ^ k.nodes * out.length := Nat.mul_le_mul_right _ hlc
    have e : out.length * 2 ^ (k.nodes + r.nodes + 1) = (2 ^ k.nodes * out.length) * 2 ^ r.nodes * 2 := by
      rw [Nat.pow_succ, Nat.pow_add]; simp only [Nat.mul_comm, Nat.mul_left_comm, Nat.mul_assoc]
    rw [e] at hb
    have hone : 1 ≤ 2 ^ r.nodes := Nat.one_le_two_pow
    have hb1 : 2 ^ k.nodes * out.length ≤ (2 ^ k.nodes * out.length) * 2 ^ r.nodes := Nat.le_mul_of_pos_right _ hone
    have hb2 : (prod out [] (lC o m k)).length * 2 ^ r.nodes ≤ (2 ^ k.nodes * out.length) * 2 ^ r.nodes := Nat.mul_le_mul_right _ (by simp at hpr; omega)
    have ih := least23_loop hN f n hf K a6 b4 b5 r (pre ++ [ce o m k]) t (prod out [] (lC o m k)) hv.2 (by omega) (by omega) hr (by simp; omega) (by omega) (by simp at hpr; omega) (by omega)
    rw [← mid, ← h3] at ih
    have h27 := fun (K : List V → Option R) (a2 a10 a13 : List V) (b3 b4 b8 b9 b11 b12 : Int) => least27_loop N hN f out K a2 a10 a13 b3 b4 b8 b9 b11 b12 (lC o m k) [] N [] (by omega) (by simp; omega) (by simp; omega) ho
    have h27' : ∀ (K : List V → Option R) (a2 a10 a13 : List V) (b3 b4 b8 b9 b11 b12 : Int), S_least_27 N f (sE out) a2 b3 b4 (sE (lC o m k)) ((sE (lC o m k)).length : Int) b8 b9 a10 b11 b12 a13 N [] 0 K = K (sE (prod out [] (lC o m k))) := h27
    unfold S_least_23 F_least_23
    rw [lq_cons]
    simp only [enc_cons, br_t, br_f, br_dec, br_not, br_and, br_or, bnd1_mk, bnd2_mk, bnd3_mk, bnd4_mk, bnd5_mk, at_zero, at_succ, at_mid, unInt_mk, unBool_mk, unStr_mk, unBytes_mk, unSl_mk, unAgg_mk, unCons_mk, unNil_mk, h1, h2, if_true, Int.toNat_natCast, hf o m k hv.1 (by omega) hk2 hk1, h27', cond_true]
    exact ih
theorem least15_loop {R : Type} (hN : 200000 < N) (f : Int → Int → List V → Option (List V)) (n : Nat) (hf : ∀ (o m : Int) (k : Cl), vC o m k = true → k.nodes < n → k.wf → K63 k → f o m k.enc = some (sE (lC o m k))) (K : List V → Option R) (a6 : List V) (b4 b5 : Int) : ∀ (l : Cl) (pre : List V) (t : Nat) (out : List Sec), vL l = true → l.len < t → l.nodes ≤ n → l.wf → pre.length + l.len ≤ 9223372036854775807 → out.length + 2 ^ l.nodes ≤ 100000 →
      S_least_15 N f (pre ++ l.enc) ((pre ++ l.enc).length : Int) b4 b5 a6 t (sE out) (pre.length : Int) K = K (sE (lq l false out))
  | l, pre, 0, out, _, ht, _, _, _, _ => by omega
  | .nil, pre, t + 1, out, _, ht, _, _, _, _ => by
    unfold S_least_15 F_least_15
    simp only [Cl.enc, br_t, br_f, br_dec, br_not, br_and, br_or, bnd1_mk, bnd2_mk, bnd3_mk, bnd4_mk, bnd5_mk, at_zero, at_succ, at_mid, unInt_mk, unBool_mk, unStr_mk, unBytes_mk, unSl_mk, unAgg_mk, unCons_mk, unNil_mk, endI, if_false, lq]
  | .cons o m k r, pre, t + 1, out, hv, ht, hn, hw, hl, hb => by
    simp only [Cl.len, Cl.nodes] at ht hn hl hb
    rw [vL_cons, Bool.and_eq_true] at hv
    obtain ⟨_, _, hk1, hk2, hr⟩ := hw
    obtain ⟨h1, h2, h3, h4⟩ := stepC pre (ce o m k) r hl
    have hlc : (lC o m k).length ≤ 2 ^ k.nodes := by
      have hk := len_lq k [zeroS]
      have hk2 := len_lq k []
      have hp : 1 ≤ 2 ^ k.nodes := Nat.one_le_two_pow
      unfold lC
      split
      · simpa using hk.1
      split
      · simpa using hk2.2
      · exact Nat.le_trans (len_base o m) hp
    have h2a := two_add k.nodes r.nodes
    have hone : 1 ≤ 2 ^ r.nodes := Nat.one_le_two_pow
    have ih := least15_loop hN f n hf K a6 b4 b5 r (pre ++ [ce o m k]) t (out ++ lC o m k) hv.2 (by omega) (by omega) hr (by simp; omega) (by rw [List.length_append]; omega)
    rw [← mid, ← h3] at ih
    unfold S_least_15 F_least_15
    rw [lq_cons]
    have hlen : ((sE out).length + (sE (lC o m k)).length) * 32 ≤ 140737488355328 := by rw [sE_len, sE_len]; omega
    simp only [enc_cons, br_t, br_f, br_dec, br_not, br_and, br_or, bnd1_mk, bnd2_mk, bnd3_mk, bnd4_mk, bnd5_mk, at_zero, at_succ, at_mid, unInt_mk, unBool_mk, unStr_mk, unBytes_mk, unSl_mk, unAgg_mk, unCons_mk, unNil_mk, h1, h2, if_true, Int.toNat_natCast, hf o m k hv.1 (by omega) hk2 hk1, cond_false, hlen]
    rw [← sE_append]
    exact ih
theorem least_eq (hN : 200000 < N) : ∀ (M : Nat) (o m : Int) (k : Cl), vC o m k = true → k.nodes < M → k.nodes ≤ 15 → k.wf → K63 k → s_least N M o m k.enc = some (sE (lC o m k))
  | 0, o, m, k, _, h, _, _, _ => by omega
  | M + 1, o, m, k, hv, h, h15, hw, hl => by
    have hln := Cl.len_le k
    have hf := fun (o m : Int) (k' : Cl) (a0 : vC o m k' = true) (a1 : k'.nodes < k.nodes) (a2 : k'.wf) (a3 : K63 k') => least_eq hN M o m k' a0 (by omega) (by omega) a2 a3
    have hp2 : 2 ^ k.nodes ≤ 2 ^ 15 := Nat.pow_le_pow_right (by omega) (by omega)
    unfold s_least B_least lC
    simp only [br_dec]
    rcases vC_leaf hv with ⟨rfl, _⟩ | ⟨rfl, _⟩ | ⟨rfl, b1, b2, _⟩ | ⟨rfl, b1, b2, _⟩ | ⟨rfl, _⟩ | ⟨rfl, b1, b2, _⟩ | ⟨rfl | rfl, h1, h2, h3⟩
    · simp [baseS, sE]
    · simp [baseS, sE, zeroS]
    · have e := shl1 (n := m.toNat) (by omega)
      rw [Int.toNat_of_nonneg (by omega)] at e
      simp [baseS, sE, e]; omega
    · have e := shl1 (n := m.toNat) (by omega)
      rw [Int.toNat_of_nonneg (by omega)] at e
      simp [baseS, sE, e]; omega
    · simp [baseS, sE]
    · simp [baseS, sE]
    · have hL := least23_loop N hN (s_least N M) k.nodes hf (fun l1 => some l1) k.enc 6 m k [] N [zeroS] h3 (by omega) (Nat.le_refl _) hw (by simpa using hl) (by simp; omega) (by simp) (by omega)
      simp only [if_true, (by decide : ¬ (6 : Int) = 1), (by decide : ¬ (6 : Int) = 2), (by decide : ¬ (6 : Int) = 3), (by decide : ¬ (6 : Int) = 4), (by decide : ¬ (6 : Int) = 5), (by decide : ¬ (6 : Int) = 7), if_false]
      exact hL
    · have hL := least15_loop N hN (s_least N M) k.nodes hf (fun l1 => some l1) k.enc 7 m k [] N [] h3 (by omega) (Nat.le_refl _) hw (by simpa using hl) (by simp; omega)
      simp only [if_true, (by decide : ¬ (7 : Int) = 1), (by decide : ¬ (7 : Int) = 2), (by decide : ¬ (7 : Int) = 3), (by decide : ¬ (7 : Int) = 4), (by decide : ¬ (7 : Int) = 5), (by decide : ¬ (7 : Int) = 6), if_false]
      exact hL
theorem IndexFuncP_loop (o m : Int) (k : Cl) (hv : vC o m k = true) (g : GoodC N k) : ∀ (l : List Sec) (pre : List V) (t : Nat), l.length < t → pre.length + l.length ≤ 9223372036854775807 →
      ∃ i, S_IndexFuncP_2 N (pre ++ sE l) ((pre ++ sE l).length : Int) o m k.enc t (pre.length : Int) (fun n0 => some n0) (some (-1)) = some i ∧ decide (0 ≤ i) = !l.all fun x => satC x o m k
  | l, pre, 0, ht, _ => by omega
  | [], pre, t + 1, ht, _ => by
    unfold S_IndexFuncP_2 F_IndexFuncP_2
    simp only [sE, br_t, br_f, br_dec, br_not, br_and, br_or, bnd1_mk, bnd2_mk, bnd3_mk, bnd4_mk, bnd5_mk, at_zero, at_succ, at_mid, unInt_mk, unBool_mk, unStr_mk, unBytes_mk, unSl_mk, unAgg_mk, unCons_mk, unNil_mk, endI, if_false]
    exact ⟨-1, rfl, by simp⟩
  | x :: l, pre, t + 1, ht, hl => by
    simp only [List.length_cons] at ht hl
    obtain ⟨h1, h2, h3, h4⟩ := stepS pre (se x) l hl
    obtain ⟨i, ih1, ih2⟩ := IndexFuncP_loop o m k hv g l (pre ++ [se x]) t (by omega) (by simp; omega)
    rw [← mid, ← h3] at ih1
    unfold S_IndexFuncP_2 F_IndexFuncP_2 s_Implies1 C_Implies1
    rw [List.all_cons]
    simp only [sE_cons, br_t, br_f, br_dec, br_not, br_and, br_or, bnd1_mk, bnd2_mk, bnd3_mk, bnd4_mk, bnd5_mk, at_zero, at_succ, at_mid, unInt_mk, unBool_mk, unStr_mk, unBytes_mk, unSl_mk, unAgg_mk, unCons_mk, unNil_mk, h1, h2, if_true, Int.toNat_natCast, asat_eq N x N o m k hv g.fuel g.fuel g.wf g.len]
    cases satC x o m k with
    | false => exact ⟨_, rfl, by simp⟩
    | true => exact ⟨i, ih1, by rw [ih2]; rfl⟩
/-- What the program's Implies returns. -/
def impP (o m : Int) (k : Cl) (o' m' : Int) (k' : Cl) : Bool := decide (chk o m k = 0) && (decide (chk o' m' k' = 0) && (lC o m k).all fun x => satC x o' m' k')
theorem Implies_eq (hN : 200000 < N) (o m : Int) (k : Cl) (o' m' : Int) (k' : Cl) (g : GoodC N k) (g' : GoodC N k') : s_Implies N o m k.enc o' m' k'.enc = some (impP o m k o' m' k') := by
  unfold s_Implies impP
  rw [aCheck_eq N o m k g, bnd1_mk, br_not, br_dec]
  by_cases c : chk o m k = 0
  · rw [if_pos c, aCheck_eq N o' m' k' g', bnd1_mk, br_not, br_dec]
    by_cases c' : chk o' m' k' = 0
    · obtain ⟨v, n15, _⟩ := chk_zero c
      obtain ⟨v', _, _⟩ := chk_zero c'
      have hlc : (lC o m k).length ≤ 2 ^ k.nodes := by
        have hk := len_lq k [zeroS]
        have hk2 := len_lq k []
        have hp : 1 ≤ 2 ^ k.nodes := Nat.one_le_two_pow
        unfold lC
        split
        · simpa using hk.1
        split
        · simpa using hk2.2
        · exact Nat.le_trans (len_base o m) hp
      have hp2 : 2 ^ k.nodes ≤ 2 ^ 15 := Nat.pow_le_pow_right (by omega) (by omega)
      obtain ⟨i, i1, i2⟩ := IndexFuncP_loop N o' m' k' v' g' (lC o m k) [] N (by omega) (by simp; omega)
      have i1' : S_IndexFuncP_2 N (sE (lC o m k)) ((sE (lC o m k)).length : Int) o' m' k'.enc N 0 (fun n0 => some n0) (some (-1)) = some i := i1
      rw [if_pos c', least_eq N hN N o m k v g.fuel n15 g.wf g.len, bnd1_mk]
      unfold s_ContainsFuncP C_ContainsFuncP s_IndexFuncP C_IndexFuncP
      rw [i1', bnd1_mk]
      show some (!decide (0 ≤ i)) = _
      rw [i2, Bool.not_not]
      simp [c, c']
    · rw [if_neg c']; simp [c']
  · rw [if_neg c]; simp [c]
theorem impP_iff (o m : Int) (k : Cl) (o' m' : Int) (k' : Cl) : impP o m k o' m' k' = true ↔ chk o m k = 0 ∧ chk o' m' k' = 0 ∧ Imp o m k o' m' k' := by
  unfold impP
  rw [Bool.and_eq_true, Bool.and_eq_true, decide_eq_true_eq, decide_eq_true_eq, List.all_eq_true]
  constructor
  · rintro ⟨c, c', h⟩
    exact ⟨c, c', (lC_imp (chk_zero c).1 (chk_zero c').1).1 h⟩
  · rintro ⟨c, c', h⟩
    exact ⟨c, c', (lC_imp (chk_zero c).1 (chk_zero c').1).2 h⟩
end
end Go.Proofs.YtahemenhcoedgaaDoor.En

/- Decoding data objects: what the program and the reference compute; there and back. -/
namespace Go.Proofs.YtahemenhcoedgaaDoor.En
open Go
set_option linter.unusedVariables false
end Go.Proofs.YtahemenhcoedgaaDoor.En

/- Decoding lists of data objects. -/
namespace Go.Proofs.YtahemenhcoedgaaDoor.En
open Go
set_option linter.unusedVariables false
end Go.Proofs.YtahemenhcoedgaaDoor.En

/- Decode, of the program and of the reference. -/
namespace Go.Proofs.YtahemenhcoedgaaDoor.En
open Go
set_option linter.unusedVariables false
end Go.Proofs.YtahemenhcoedgaaDoor.En

/- Encoding rules: the program and the reference. -/
namespace Go.Proofs.YtahemenhcoedgaaDoor.En
open Go
set_option linter.unusedVariables false
theorem bI (n : Int) : UInt8.ofNat (IntKind.u8.wrap n).toNat = byteI n := by rw [wu8]; rfl
theorem nilApp {α : Type} (l : List α) : List.append [] l = l := id rfl
section
variable (N : Nat)
theorem aencode_loop {R : Type} (f : Int → Int → List V → Option (List UInt8)) (n : Nat) (hf : ∀ (o m : Int) (k : Cl), vC o m k = true → k.nodes < n → k.wf → K63 k → f o m k.enc = some (eC o m k)) (K : List UInt8 → Option R) (a4 a5 : Int) (a6 : List V) (a7 : List UInt8) (b8 b9 : Bool) (a10 a11 : Int) :
    ∀ (l : Cl) (pre : List V) (t : Nat) (acc : List UInt8), vL l = true → l.len < t → l.nodes ≤ n → l.wf → pre.length + l.len ≤ 9223372036854775807 → acc.length + 2 * l.nodes ≤ 1000000 →
      S_aencode_8 N f (pre ++ l.enc) ((pre ++ l.enc).length : Int) a4 a5 a6 a7 b8 b9 a10 a11 t acc (pre.length : Int) K = K (acc ++ eL l)
  | l, pre, 0, acc, _, ht, _, _, _, _ => by omega
  | .nil, pre, t + 1, acc, _, ht, _, _, _, _ => by
    unfold S_aencode_8 F_aencode_8
    simp only [Cl.enc, br_t, br_f, br_dec, br_not, br_and, br_or, bnd1_mk, bnd2_mk, bnd3_mk, bnd4_mk, bnd5_mk, at_zero, at_succ, at_mid, unInt_mk, unBool_mk, unStr_mk, unBytes_mk, unSl_mk, unAgg_mk, unCons_mk, unNil_mk, endI, if_false, eL]
    rw [List.append_nil]
  | .cons o m k r, pre, t + 1, acc, hv, ht, hn, hw, hl, hb => by
    simp only [Cl.len, Cl.nodes] at ht hn hl hb
    rw [vL_cons, Bool.and_eq_true] at hv
    obtain ⟨_, _, hk1, hk2, hr⟩ := hw
    obtain ⟨h1, h2, h3, h4⟩ := stepC pre (ce o m k) r hl
    have hlen : (eC o m k).length ≤ 2 * k.nodes + 2 := by
      have := eL_len (.cons o m k .nil)
      rw [eL_cons] at this
      simp only [eL, List.append_nil, Cl.nodes] at this
      omega
    have ih := aencode_loop f n hf K a4 a5 a6 a7 b8 b9 a10 a11 r (pre ++ [ce o m k]) t (acc ++ eC o m k) hv.2 (by omega) (by omega) hr (by simp; omega) (by rw [List.length_append]; omega)
    rw [← mid, ← h3] at ih
    have hc : (acc.length + (eC o m k).length) * 1 ≤ 140737488355328 := by omega
    unfold S_aencode_8 F_aencode_8
    simp only [enc_cons, br_t, br_f, br_dec, br_not, br_and, br_or, bnd1_mk, bnd2_mk, bnd3_mk, bnd4_mk, bnd5_mk, at_zero, at_succ, at_mid, unInt_mk, unBool_mk, unStr_mk, unBytes_mk, unSl_mk, unAgg_mk, unCons_mk, unNil_mk, h1, h2, if_true, Int.toNat_natCast, hf o m k hv.1 (by omega) hk2 hk1, hc]
    rw [ih, eL_cons, List.append_assoc]
theorem aencode_eq : ∀ (M : Nat) (o m : Int) (k : Cl), vC o m k = true → k.nodes < M → k.nodes < N → k.nodes ≤ 1000 → k.wf → K63 k → s_aencode N M o m k.enc = some (eC o m k)
  | 0, o, m, k, _, h, _, _, _, _ => by omega
  | M + 1, o, m, k, hv, h, hN, hs, hw, hl => by
    have hln := Cl.len_le k
    have hf := fun (o m : Int) (k' : Cl) (a0 : vC o m k' = true) (a1 : k'.nodes < k.nodes) (a2 : k'.wf) (a3 : K63 k') => aencode_eq M o m k' a0 (by omega) (by omega) (by omega) a2 a3
    have hL := fun (a7 : List UInt8) (b8 b9 : Bool) (a10 a11 : Int) (acc : List UInt8) (ha : acc.length ≤ 2) (hvk : vL k = true) => aencode_loop N (s_aencode N M) k.nodes hf (fun l1 => some l1) o m k.enc a7 b8 b9 a10 a11 k [] N acc hvk (by omega) (Nat.le_refl _) hw (by simpa using hl) (by omega)
    have hL' : ∀ (a7 : List UInt8) (b8 b9 : Bool) (a10 a11 : Int) (acc : List UInt8), acc.length ≤ 2 → vL k = true → S_aencode_8 N (s_aencode N M) k.enc (k.enc.length : Int) o m k.enc a7 b8 b9 a10 a11 N acc 0 (fun l1 => some l1) = some (acc ++ eL k) := hL
    unfold s_aencode B_aencode eC
    simp only [s_forms, bnd1_mk, br_dec, bI, Cl.enc_len] at hL' ⊢
    rcases vC_leaf hv with ⟨rfl, _, rfl⟩ | ⟨rfl, _, rfl⟩ | ⟨rfl, b1, b2, rfl⟩ | ⟨rfl, b1, b2, rfl⟩ | ⟨rfl, _, _, rfl⟩ | ⟨rfl, b1, b2, rfl⟩ | ⟨rfl | rfl, h1, h2, h3⟩
    · rw [if_pos rfl, hL' _ _ _ _ _ _ (by simp) rfl]; rfl
    · rw [if_neg (by omega), if_pos rfl, hL' _ _ _ _ _ _ (by simp) rfl]; rfl
    · rw [if_neg (by omega), if_neg (by omega), if_pos rfl, hL' _ _ _ _ _ _ (by simp) rfl, if_neg (by omega), if_pos (by omega)]; rfl
    · rw [if_neg (by omega), if_neg (by omega), if_neg (by omega), if_pos rfl, hL' _ _ _ _ _ _ (by simp) rfl, if_neg (by omega), if_pos (by omega)]; rfl
    · rw [if_neg (by omega), if_neg (by omega), if_neg (by omega), if_neg (by omega), if_pos rfl, hL' _ _ _ _ _ _ (by simp) rfl, if_neg (by omega), if_pos (by omega)]; rfl
    · rw [if_neg (by omega), if_neg (by omega), if_neg (by omega), if_neg (by omega), if_neg (by omega), if_pos rfl, hL' _ _ _ _ _ _ (by simp) rfl, if_neg (by omega), if_pos (by omega)]; rfl
    · rw [if_neg (by omega), if_neg (by omega), if_neg (by omega), if_neg (by omega), if_neg (by omega), if_neg (by omega), if_pos rfl, hL' _ _ _ _ _ _ (by simp) h3, if_pos (by omega)]; rfl
    · rw [if_neg (by omega), if_neg (by omega), if_neg (by omega), if_neg (by omega), if_neg (by omega), if_neg (by omega), if_neg (by omega), if_pos rfl, hL' _ _ _ _ _ _ (by simp) h3, if_pos (by omega)]; rfl
/-- Rules as data objects. -/
def rT : List Ru → Tl
  | [] => .nil
  | r :: l => .cons 128 (byteI r.ops :: eC r.o r.m r.k) .nil (rT l)
theorem rT_ok : ∀ l : List Ru, okL 1 (rT l) = true
  | [] => rfl
  | r :: l => by
    have e1 : tagV 128 = true := by decide
    have e2 : tagC 128 = false := by decide
    unfold rT okL
    rw [e1, e2, rT_ok l]; rfl
theorem rT_len : ∀ l : List Ru, (rT l).len = l.length
  | [] => rfl
  | r :: l => by simp [rT, Tl.len, rT_len l]
theorem rT_wt : ∀ l : List Ru, (∀ r ∈ l, r.k.nodes ≤ 15) → (rT l).wt ≤ 40 * l.length ∧ (encL (rT l)).length ≤ 40 * l.length ∧ (rT l).nodes ≤ l.length ∧ (rT l).wf
  | [], _ => ⟨Nat.le_refl _, Nat.le_refl _, Nat.le_refl _, trivial⟩
  | r :: l, h => by
    obtain ⟨h1, h2, h3, h4⟩ := rT_wt l fun r hr => h r (by simp [hr])
    have hr := h r (by simp)
    have hlen : (eC r.o r.m r.k).length ≤ 2 * r.k.nodes + 2 := by
      have := eL_len (.cons r.o r.m r.k .nil)
      rw [eL_cons] at this
      simp only [eL, List.append_nil, Cl.nodes] at this
      omega
    have e2 : tagC 128 = false := by decide
    have ht := tagB_len 128
    have hlb := lenB_len (((byteI r.ops :: eC r.o r.m r.k).length : Nat) : Int)
    refine ⟨?_, ?_, ?_, ?_⟩
    · unfold rT; simp only [Tl.wt, List.length_cons]; omega
    · unfold rT; rw [encL_cons, e2]; simp only [cond_false, List.length_append, List.length_cons] at hlb ⊢; omega
    · unfold rT; simp only [Tl.nodes, List.length_cons]; omega
    · unfold rT; exact ⟨⟨by omega, by omega⟩, by simp only [List.length_cons]; omega, by simp [Tl.len], trivial, h4⟩
theorem rT_cons (a : Tl) (r : Ru) (l : List Ru) : (a.append (.cons 128 (byteI r.ops :: eC r.o r.m r.k) .nil .nil)).append (rT l) = a.append (rT (r :: l)) := by
  induction a with
  | nil => rfl
  | cons t v k r' _ ih => simp only [Tl.append]; rw [ih]
theorem aEncode_loop {R : Type} (K : List V → Option R) : ∀ (l : List Ru) (pre : List V) (t : Nat) (acc : Tl), l.length < t → (∀ r ∈ l, GoodC N r.k ∧ vC r.o r.m r.k = true ∧ r.k.nodes ≤ 15) → pre.length + l.length ≤ 9223372036854775807 → acc.len + l.length ≤ 1000 →
      S_aEncode_6 N (pre ++ rE l) ((pre ++ rE l).length : Int) t acc.enc (pre.length : Int) K = K (acc.append (rT l)).enc
  | l, pre, 0, acc, ht, _, _, _ => by omega
  | [], pre, t + 1, acc, ht, _, _, _ => by
    unfold S_aEncode_6 F_aEncode_6
    simp only [rE, br_t, br_f, br_dec, br_not, br_and, br_or, bnd1_mk, bnd2_mk, bnd3_mk, bnd4_mk, bnd5_mk, at_zero, at_succ, at_mid, unInt_mk, unBool_mk, unStr_mk, unBytes_mk, unSl_mk, unAgg_mk, unCons_mk, unNil_mk, endI, if_false, rT, Tl.append_nil]
  | r :: l, pre, t + 1, acc, ht, hg, hl, hb => by
    simp only [List.length_cons] at ht hl hb
    obtain ⟨h1, h2, h3, h4⟩ := stepR pre (.agg [.int .i64 r.ops, .int .i64 r.o, .int .i64 r.m, .sl 24 r.k.enc]) l hl
    obtain ⟨g, gv, gn⟩ := hg r (by simp)
    have hlen : (eC r.o r.m r.k).length ≤ 2 * r.k.nodes + 2 := by
      have := eL_len (.cons r.o r.m r.k .nil)
      rw [eL_cons] at this
      simp only [eL, List.append_nil, Cl.nodes] at this
      omega
    have ih := aEncode_loop K l (pre ++ [.agg [.int .i64 r.ops, .int .i64 r.o, .int .i64 r.m, .sl 24 r.k.enc]]) t (acc.append (.cons 128 (byteI r.ops :: eC r.o r.m r.k) .nil .nil)) (by omega) (fun r hr => hg r (by simp [hr])) (by simp; omega) (by rw [Tl.len_append]; simp only [Tl.len]; omega)
    rw [← mid, ← h3, rT_cons, Tl.enc_append] at ih
    have c1 : ([byteI r.ops].length + (eC r.o r.m r.k).length) * 1 ≤ 140737488355328 := by simp; omega
    have c2 : (acc.enc.length + [V.agg [V.int IntKind.i64 128, V.bytes (byteI r.ops :: eC r.o r.m r.k), V.sl 67 []]].length) * 56 ≤ 140737488355328 := by rw [Tl.enc_len]; simp; omega
    unfold S_aEncode_6 F_aEncode_6
    simp only [rE, br_t, br_f, br_dec, br_not, br_and, br_or, bnd1_mk, bnd2_mk, bnd3_mk, bnd4_mk, bnd5_mk, at_zero, at_succ, at_mid, unInt_mk, unBool_mk, unStr_mk, unBytes_mk, unSl_mk, unAgg_mk, unCons_mk, unNil_mk, h1, h2, if_true, Int.toNat_natCast, aencode_eq N N r.o r.m r.k gv g.fuel g.fuel (by omega) g.wf g.len, bI, nilApp, c1, c2]
    exact ih
/-- What Encode returns. -/
def encRu (l : List Ru) : List UInt8 × Int := if chkR l = 0 then (encL (rT l), 0) else ([], chkR l)
theorem encR_rT {l : List Ru} (h : chkR l = 0) : encR (rT l) = (encL (rT l), 0) := by
  obtain ⟨h8, hv⟩ := chkR_zero h
  obtain ⟨_, h2, _, _⟩ := rT_wt l fun r hr => by have := (hv r hr).2.2.2.1; omega
  unfold encR
  rw [if_pos (rT_ok l), if_pos (by omega)]
theorem aEncode_eq (l : List Ru) (g : GoodR N l) : s_aEncode N (rE l) = some (encRu l) := by
  have g1 := g.len
  have g2 := g.fuel
  unfold s_aEncode encRu
  rw [aCheckRules_eq N l g, bnd1_mk, br_not, br_dec]
  by_cases c : chkR l = 0
  · obtain ⟨h8, hv⟩ := chkR_zero c
    obtain ⟨h1, h2, h3, h4⟩ := rT_wt l fun r hr => by have := (hv r hr).2.2.2.1; omega
    have hl1 := rT_len l
    have hL : ∀ (K : List V → Option (List UInt8 × Int)), S_aEncode_6 N (rE l) ((rE l).length : Int) N [] 0 K = K (Tl.append .nil (rT l)).enc := fun K =>
      aEncode_loop N K l [] N .nil (by omega) (fun r hr => ⟨g.good r hr, (hv r hr).2.2.1, (hv r hr).2.2.2.1⟩) (by simp; omega) (by simp [Tl.len]; omega)
    rw [if_pos c, if_pos c, hL]
    show bnd2 (s_Encode N (rT l).enc) _ = _
    rw [Encode_eq N (rT l) (by omega) h4 (by show (rT l).len ≤ _; omega) (by omega), encR_rT c]; rfl
  · rw [if_neg c, if_neg c]
end
end Go.Proofs.YtahemenhcoedgaaDoor.En

/- Decoding rules: the program and the reference. -/
namespace Go.Proofs.YtahemenhcoedgaaDoor.En
open Go
set_option linter.unusedVariables false
section
variable (N : Nat)
/-! Rules -/
/-! Decode -/
end
end Go.Proofs.YtahemenhcoedgaaDoor.En

/- Which rules are the same: the program and the reference. -/
namespace Go.Proofs.YtahemenhcoedgaaDoor.En
open Go
set_option linter.unusedVariables false
section
variable (N : Nat)
/-! Rules -/
end
end Go.Proofs.YtahemenhcoedgaaDoor.En

/- The texts of conditions differ. Plain. -/
namespace Go.Proofs.YtahemenhcoedgaaDoor.En
open Go
set_option linter.unusedVariables false
/-- The digits of a number from 0 to 99. -/
def numB (n : Int) : List UInt8 := if 10 ≤ n then [UInt8.ofNat (48 + (n / 10).toNat), UInt8.ofNat (48 + (n % 10).toNat)] else [UInt8.ofNat (48 + n.toNat)]
def headB (o : Int) : List UInt8 :=
  if o = 0 then [110, 101, 118, 101, 114] else if o = 1 then [97, 108, 119, 97, 121, 115] else if o = 2 then [112, 105, 110] else if o = 3 then [107, 101, 121]
  else if o = 4 then [115, 116, 97, 116, 101] else if o = 5 then [108, 101, 118, 101, 108] else if o = 6 then [97, 110, 100] else if o = 7 then [111, 114] else []
/-- The texts of a list, with commas. -/
def tL : Cl → Bool → List UInt8
  | .nil, _ => []
  | .cons o m k r, first => (bif first then [] else [44, 32]) ++ ((headB o ++ (if 6 ≤ o then 40 :: (tL k true ++ [41]) else if 2 ≤ o then 32 :: numB m else [])) ++ tL r false)
def tC (o m : Int) (k : Cl) : List UInt8 := headB o ++ (if 6 ≤ o then 40 :: (tL k true ++ [41]) else if 2 ≤ o then 32 :: numB m else [])
theorem tL_cons (o m : Int) (k r : Cl) (first : Bool) : tL (.cons o m k r) first = (bif first then [] else [44, 32]) ++ (tC o m k ++ tL r false) := by
  conv => lhs; unfold tL
  rfl
/-- The number of a valid condition. -/
theorem vC_num {o m : Int} {k : Cl} (h : vC o m k = true) : 0 ≤ m ∧ m < 100 := by
  rcases vC_leaf h with h | h | h | h | h | h | h
  · omega
  · omega
  · omega
  · omega
  · omega
  · have := level_range h.2.1 h.2.2.1; omega
  · omega
end Go.Proofs.YtahemenhcoedgaaDoor.En

/- A region that draws its order, whatever the order: each operation is shown once, from what the operations that it waits for have yielded. No program in sight. -/
namespace Go.Proofs.YtahemenhcoedgaaDoor
open Go.RowKit

/-- The value in an operation's slot. -/
def slotAt (a : Act) (d : Option Tmp) : Value := match d with | some d => a.tmps[d]?.getD undef | none => undef
def dstAt (ops : Array Oper) (i : Nat) : Option Tmp := (ops[i]?).bind (·.dst)

/-- Each edge goes back to an earlier operation; each slot is written once, and lies in the frame. -/
def Region.plain (ops : Array Oper) (n : Nat) : Bool :=
  (List.range ops.size).all fun i => match ops[i]? with
    | none => false
    | some o => (o.after.all fun e => !Region.binds .any e || decide (e.on < i)) &&
      (match o.dst with
       | none => true
       | some d => decide (d < n) && (List.range ops.size).all fun j => decide (j = i) || dstAt ops j != some d)

/-- No operation that writes slot k comes up ahead of operation i. -/
def Region.before (ops : Array Oper) (i k : Nat) : Bool :=
  ops.all fun o => o.dst != some k || o.after.any fun e => Region.binds .any e && e.on == i

/-- What the operations that o waits for have yielded. -/
def Waited (ops : Array Oper) (φ : Nat → Value → World → Prop) (a : Act) (w : World) : List Edge → Prop
  | [] => True
  | e :: r => (match Region.binds .any e with | true => φ e.on (slotAt a (dstAt ops e.on)) w | false => True) ∧ Waited ops φ a w r

/-- The value that an operation leaves: none where it has no slot. -/
def ofDst (d : Option Tmp) (v : Value) : Value := match d with | some _ => v | none => undef
/-- One operation, in whatever state it may come up. -/
def StepAt (P : Program) (ops : Array Oper) (Q : Exit → Act → World → Prop) (T : World → World → Prop) (φ : Nat → Value → World → Prop) (a0 : Act) (w0 : World) (i : Nat) (o : Oper) : Prop :=
  ∀ (a : Act) (w : World) (K : Act → World → Prop), T w0 w → (∀ k, Region.before ops i k = true → a.tmps[k]?.getD undef = a0.tmps[k]?.getD undef) → Waited ops φ a w o.after.toList →
    (∀ v w', T w w' → φ i (ofDst o.dst v) w' → K (a.put o.dst v) w') → if Region.wanted o (yielded ops a.tmps) = true then Oper.wp P o a w K Q else K (a.put o.dst undef) w

def StepsAt (P : Program) (ops : Array Oper) (Q : Exit → Act → World → Prop) (T : World → World → Prop) (φ : Nat → Value → World → Prop) (a0 : Act) (w0 : World) : Nat → List Oper → Prop
  | _, [] => True
  | i, o :: r => StepAt P ops Q T φ a0 w0 i o ∧ StepsAt P ops Q T φ a0 w0 (i + 1) r

/-- The frame behind the region. -/
def putsAt (vs : Nat → Value) : Nat → List Oper → Act → Act
  | _, [], a => a
  | i, o :: r, a => putsAt vs (i + 1) r (a.put o.dst (vs i))

def AllAt (φ : Nat → Value → World → Prop) (vs : Nat → Value) (w : World) : Nat → List Oper → Prop
  | _, [] => True
  | i, _ :: r => φ i (vs i) w ∧ AllAt φ vs w (i + 1) r

section
variable {P : Program} {ops : Array Oper} {Q : Exit → Act → World → Prop} {T : World → World → Prop} {φ : Nat → Value → World → Prop} {a0 : Act} {w0 : World}

theorem StepsAt.get : ∀ (l : List Oper) (k : Nat), StepsAt P ops Q T φ a0 w0 k l → ∀ i o, l[i]? = some o → StepAt P ops Q T φ a0 w0 (k + i) o
  | [], _, _, i, o, h => by simp at h
  | x :: l, k, hs, 0, o, h => by simp at h; subst h; exact hs.1
  | x :: l, k, hs, i + 1, o, h => by
    have := StepsAt.get l (k + 1) hs.2 i o (by simpa using h)
    rwa [show k + 1 + i = k + (i + 1) by omega] at this
theorem AllAt.of : ∀ (l : List Oper) (k : Nat) {vs : Nat → Value} {w : World}, (∀ i, i < l.length → φ (k + i) (vs (k + i)) w) → AllAt φ vs w k l
  | [], _, _, _, _ => trivial
  | _ :: l, k, vs, w, h => ⟨by simpa using h 0 (by simp), AllAt.of l (k + 1) (fun i hi => by have := h (i + 1) (by simp; omega); rwa [show k + (i + 1) = k + 1 + i by omega] at this)⟩
theorem Waited.of {a : Act} {w : World} : ∀ (l : List Edge), (∀ e ∈ l, Region.binds .any e = true → φ e.on (slotAt a (dstAt ops e.on)) w) → Waited ops φ a w l
  | [], _ => trivial
  | e :: l, h => ⟨by cases hb : Region.binds .any e with | true => exact h e (by simp) hb | false => trivial, Waited.of l (fun e' he' => h e' (by simp [he']))⟩

theorem plain_spec {n : Nat} (h : Region.plain ops n = true) {i : Nat} {o : Oper} (ho : ops[i]? = some o) :
    (∀ e ∈ o.after, Region.binds .any e = true → e.on < i) ∧ (∀ d, o.dst = some d → d < n ∧ ∀ j, j < ops.size → j ≠ i → dstAt ops j ≠ some d) := by
  have hi : i < ops.size := (Array.getElem?_eq_some_iff.1 ho).1
  unfold Region.plain at h
  rw [List.all_eq_true] at h
  have h1 := h i (List.mem_range.2 hi)
  rw [ho] at h1
  simp only [Bool.and_eq_true] at h1
  refine ⟨fun e he hb => ?_, fun d hd => ?_⟩
  · have := Array.all_eq_true_iff_forall_mem.1 h1.1 e he
    simpa [hb] using this
  · have h2 := h1.2
    rw [hd] at h2
    simp only [Bool.and_eq_true, decide_eq_true_eq, List.all_eq_true] at h2
    refine ⟨h2.1, fun j hj hne => ?_⟩
    have := h2.2 j (List.mem_range.2 hj)
    simpa [hne] using this

/-- What holds while the operations marked in 'listed' have come up. -/
structure RegInv (ops : Array Oper) (T : World → World → Prop) (φ : Nat → Value → World → Prop) (a0 : Act) (w0 : World) (listed : Array Bool) (a : Act) (w : World) : Prop where
  world : T w0 w
  size : listed.size = ops.size
  defers : a.defers = a0.defers
  frame : a.tmps.size = a0.tmps.size
  same : ∀ k, (∀ j, listed.getD j false = true → dstAt ops j ≠ some k) → a.tmps[k]?.getD undef = a0.tmps[k]?.getD undef
  vals : ∀ j, listed.getD j false = true → φ j (slotAt a (dstAt ops j)) w
  closed : ∀ j o, ops[j]? = some o → listed.getD j false = true → ∀ e ∈ o.after, Region.binds .any e = true → listed.getD e.on false = true

theorem put_tmps_size (a : Act) (d : Option Tmp) (v : Value) : (a.put d v).tmps.size = a.tmps.size := by cases d <;> simp [Act.put]
theorem put_defers (a : Act) (d : Option Tmp) (v : Value) : (a.put d v).defers = a.defers := by cases d <;> simp [Act.put]
theorem put_getD_ne (a : Act) (d : Option Tmp) (v : Value) (k : Nat) (h : d ≠ some k) : (a.put d v).tmps[k]?.getD undef = a.tmps[k]?.getD undef := by
  cases d with
  | none => rfl
  | some d => simp only [Act.put]; rw [Array.getElem?_setIfInBounds_ne (fun e => h (by rw [e]))]
theorem put_getD_self (a : Act) (d : Nat) (v : Value) (h : d < a.tmps.size) : (a.put (some d) v).tmps[d]?.getD undef = v := by
  simp [Act.put, h]

theorem listed_set {listed : Array Bool} {i j : Nat} (hi : i < listed.size) : (listed.setIfInBounds i true).getD j false = true ↔ j = i ∨ listed.getD j false = true := by
  by_cases h : i = j
  · subst h; simp [hi]
  · rw [getD_set_ne false h]; simp [Ne.symm h]

theorem RegInv.step (hp : Region.plain ops a0.tmps.size = true) (htr : ∀ x y z : World, T x y → T y z → T x z) (hst : ∀ i v w w', T w w' → φ i v w → φ i v w')
    {listed : Array Bool} {a : Act} {w : World} (inv : RegInv ops T φ a0 w0 listed a w) {i : Nat} {o : Oper} (ho : ops[i]? = some o) (hr : i ∈ Region.ready .any ops listed)
    {v : Value} {w' : World} (hw : T w w') (hv : φ i (ofDst o.dst v) w') : RegInv ops T φ a0 w0 (listed.setIfInBounds i true) (a.put o.dst v) w' := by
  have hi : i < ops.size := (Array.getElem?_eq_some_iff.1 ho).1
  have hil : i < listed.size := by rw [inv.size]; exact hi
  obtain ⟨hun, o', ho', hall⟩ := mem_ready.1 hr
  rw [ho] at ho'; injection ho' with ho'; subst ho'
  obtain ⟨_, hd⟩ := plain_spec hp ho
  have hdi : dstAt ops i = o.dst := by simp [dstAt, ho]
  refine ⟨htr _ _ _ inv.world hw, by simpa using inv.size, by rw [put_defers]; exact inv.defers, by rw [put_tmps_size]; exact inv.frame, ?_, ?_, ?_⟩
  · intro k hk
    rw [put_getD_ne _ _ _ _ (by rw [← hdi]; exact hk i ((listed_set hil).2 (.inl rfl)))]
    exact inv.same k fun j hj => hk j ((listed_set hil).2 (.inr hj))
  · intro j hj
    rcases (listed_set hil).1 hj with rfl | hj2
    · rw [hdi]
      cases hdo : o.dst with
      | none => rw [hdo] at hv; exact hv
      | some d =>
        rw [hdo] at hv
        have := (hd d hdo).1
        rw [show slotAt (a.put (some d) v) (some d) = v from put_getD_self a d v (by rw [inv.frame]; exact this)]
        exact hv
    · have hne : j ≠ i := fun e => by
        subst e
        rcases Nat.lt_or_ge j listed.size with h' | h'
        · rw [Array.getD_eq_getD_getElem?, Array.getElem?_eq_getElem h'] at hun hj2
          simp only [Option.getD_some] at hun hj2
          rw [hun] at hj2; cases hj2
        · omega
      have hjl : j < ops.size := by
        rcases Nat.lt_or_ge j ops.size with h' | h'
        · exact h'
        · rw [← inv.size] at h'; simp [Array.getElem?_eq_none h'] at hj2
      have := hst j _ _ _ hw (inv.vals j hj2)
      have hs : slotAt (a.put o.dst v) (dstAt ops j) = slotAt a (dstAt ops j) := by
        cases hdj : dstAt ops j with
        | none => rfl
        | some k => exact put_getD_ne _ _ _ _ (fun e => (hd k e).2 j hjl hne hdj)
      rw [hs]; exact this
  · intro j oj hoj hj e he hb
    rcases (listed_set hil).1 hj with rfl | hj
    · rw [ho] at hoj; injection hoj with hoj; subst hoj
      exact (listed_set hil).2 (.inr (hall e he hb))
    · exact (listed_set hil).2 (.inr (inv.closed j oj hoj hj e he hb))

theorem RegInv.wpOp (hp : Region.plain ops a0.tmps.size = true) (htr : ∀ x y z : World, T x y → T y z → T x z) (hst : ∀ i v w w', T w w' → φ i v w → φ i v w')
    {listed : Array Bool} {a : Act} {w : World} (inv : RegInv ops T φ a0 w0 listed a w) {i : Nat} {o : Oper} (ho : ops[i]? = some o) (hr : i ∈ Region.ready .any ops listed)
    (hs : StepAt P ops Q T φ a0 w0 i o) :
    Go.wpOp P ops Q i (fun a' w' => RegInv ops T φ a0 w0 (listed.setIfInBounds i true) a' w') a w := by
  have hi : i < ops.size := (Array.getElem?_eq_some_iff.1 ho).1
  obtain ⟨hun, o', ho', hall⟩ := mem_ready.1 hr
  rw [ho] at ho'; injection ho' with ho'; subst ho'
  have hil : i < listed.size := by rw [inv.size]; exact hi
  have hstep := hs a w (fun a' w' => RegInv ops T φ a0 w0 (listed.setIfInBounds i true) a' w') inv.world
    (fun k hk => inv.same k fun j hj hdj => by
      unfold Region.before at hk
      have hjl : j < ops.size := by
        rcases Nat.lt_or_ge j ops.size with h' | h'
        · exact h'
        · rw [← inv.size] at h'; simp [Array.getElem?_eq_none h'] at hj
      have hoj : ops[j]? = some ops[j] := Array.getElem?_eq_getElem hjl
      have hdj' : (ops[j]).dst = some k := by simpa [dstAt, hoj] using hdj
      have h1 := Array.all_eq_true_iff_forall_mem.1 hk ops[j] (Array.getElem_mem hjl)
      simp only [hdj', bne_self_eq_false, Bool.false_or] at h1
      rw [Array.any_eq_true] at h1
      obtain ⟨q, hq, hb⟩ := h1
      simp only [Bool.and_eq_true, beq_iff_eq] at hb
      have h2 := inv.closed j _ hoj hj _ (Array.getElem_mem hq) hb.1
      rw [hb.2] at h2
      rw [Array.getD_eq_getD_getElem?, Array.getElem?_eq_getElem hil] at hun h2
      simp only [Option.getD_some] at hun h2
      rw [hun] at h2; cases h2)
    (Waited.of _ fun e he hb => inv.vals _ (hall e (by simpa using he) hb))
    (fun v w' hw hv => inv.step hp htr hst ho hr hw hv)
  unfold Go.wpOp
  simp only [ho]
  split
  · rename_i hw
    rw [if_pos hw] at hstep
    exact .inl hstep
  · rename_i hw
    rw [if_neg hw] at hstep
    exact hstep

/-- How many have come up. -/
def marked (listed : Array Bool) : Nat := listed.toList.countP (· = true)
theorem marked_set {listed : Array Bool} {i : Nat} (hi : i < listed.size) (h : listed.getD i true = false) : marked (listed.setIfInBounds i true) = marked listed + 1 := by
  have hf : listed[i] = false := by rw [Array.getD_eq_getD_getElem?, Array.getElem?_eq_getElem hi] at h; simpa using h
  unfold marked
  rw [Array.toList_setIfInBounds]
  have hl : listed.toList = listed.toList.take i ++ listed.toList[i]'(by simpa using hi) :: listed.toList.drop (i + 1) := by
    conv => lhs; rw [← List.take_append_drop i listed.toList, List.drop_eq_getElem_cons (by simpa using hi)]
  rw [List.set_eq_take_append_cons_drop, if_pos (by simpa using hi)]
  conv => rhs; rw [hl]
  simp [List.countP_append, hf]
  omega
theorem marked_le (listed : Array Bool) : marked listed ≤ listed.size := by
  unfold marked; rw [← Array.length_toList]; exact List.countP_le_length

theorem RegInv.any (hp : Region.plain ops a0.tmps.size = true) (htr : ∀ x y z : World, T x y → T y z → T x z) (hst : ∀ i v w w', T w w' → φ i v w → φ i v w')
    (hs : StepsAt P ops Q T φ a0 w0 0 ops.toList) (hfin : ∀ listed a w, RegInv ops T φ a0 w0 listed a w → (∀ j, j < ops.size → listed.getD j false = true) → Q .normal a w) :
    ∀ (fuel : Nat) (listed : Array Bool) (a : Act) (w : World), fuel + marked listed = ops.size → RegInv ops T φ a0 w0 listed a w → wpAny P .any ops Q fuel listed a w := by
  have hdone : ∀ (listed : Array Bool) (a : Act) (w : World), RegInv ops T φ a0 w0 listed a w → Region.ready .any ops listed = [] → ∀ j, j < ops.size → listed.getD j false = true := by
    intro listed a w inv hr j
    induction j using Nat.strongRecOn with
    | _ j ih =>
      intro hj
      have hoj : ops[j]? = some ops[j] := Array.getElem?_eq_getElem hj
      have hjl : j < listed.size := by rw [inv.size]; exact hj
      cases hl : listed.getD j false with
      | true => rfl
      | false =>
        have : j ∈ Region.ready .any ops listed := mem_ready.2 ⟨by
          rw [Array.getD_eq_getD_getElem?, Array.getElem?_eq_getElem hjl] at hl ⊢; exact hl, _, hoj, fun e he hb => by
          have hlt := (plain_spec hp hoj).1 e he hb
          exact ih e.on hlt (by omega)⟩
        rw [hr] at this; cases this
  intro fuel
  induction fuel with
  | zero =>
    intro listed a w hm inv
    have hall : ∀ j, j < ops.size → listed.getD j false = true := by
      intro j hj
      have hjl : j < listed.size := by rw [inv.size]; exact hj
      cases hl : listed.getD j false with
      | true => rfl
      | false =>
        have h1 := marked_set (listed := listed) hjl (by rw [Array.getD_eq_getD_getElem?, Array.getElem?_eq_getElem hjl] at hl ⊢; exact hl)
        have h2 := marked_le (listed.setIfInBounds j true)
        rw [Array.size_setIfInBounds, inv.size] at h2
        omega
    refine ⟨?_, hfin listed a w inv hall⟩
    rcases hr : Region.ready .any ops listed with _ | ⟨j, l⟩
    · rfl
    · have hj : j ∈ Region.ready .any ops listed := by rw [hr]; exact List.mem_cons_self
      obtain ⟨hun, o, ho, _⟩ := mem_ready.1 hj
      have hjs : j < ops.size := (Array.getElem?_eq_some_iff.1 ho).1
      have h1 := hall j hjs
      have hjl : j < listed.size := by rw [inv.size]; exact hjs
      rw [Array.getD_eq_getD_getElem?, Array.getElem?_eq_getElem hjl] at hun h1
      simp only [Option.getD_some] at hun h1
      rw [hun] at h1; cases h1
  | succ fuel ih =>
    intro listed a w hm inv
    refine ⟨fun hr => hfin listed a w inv (hdone listed a w inv hr), fun i hi => ?_⟩
    obtain ⟨hun, o, ho, _⟩ := mem_ready.1 hi
    have his : i < ops.size := (Array.getElem?_eq_some_iff.1 ho).1
    have hsi := StepsAt.get ops.toList 0 hs i o (by simpa using ho)
    rw [Nat.zero_add] at hsi
    refine wpOp_mono (fun a' w' inv' => ih _ a' w' ?_ inv') (inv.wpOp hp htr hst ho hi hsi)
    rw [marked_set (by rw [inv.size]; exact his) hun]
    omega

theorem putsAt_getD (vs : Nat → Value) (k : Nat) : ∀ (l : List Oper) (i : Nat) (a : Act), (∀ (j : Nat) (o : Oper), l[j]? = some o → o.dst ≠ some k) → (putsAt vs i l a).tmps[k]?.getD undef = a.tmps[k]?.getD undef
  | [], _, _, _ => rfl
  | o :: l, i, a, h => by
    rw [putsAt, putsAt_getD vs k l (i + 1) _ (fun j o' hj => h (j + 1) o' (by simpa using hj)), put_getD_ne _ _ _ _ (h 0 o rfl)]
theorem putsAt_size (vs : Nat → Value) : ∀ (l : List Oper) (i : Nat) (a : Act), (putsAt vs i l a).tmps.size = a.tmps.size
  | [], _, _ => rfl
  | o :: l, i, a => by rw [putsAt, putsAt_size vs l, put_tmps_size]
theorem putsAt_defers (vs : Nat → Value) : ∀ (l : List Oper) (i : Nat) (a : Act), (putsAt vs i l a).defers = a.defers
  | [], _, _ => rfl
  | o :: l, i, a => by rw [putsAt, putsAt_defers vs l, put_defers]
theorem putsAt_get (vs : Nat → Value) (k : Nat) : ∀ (l : List Oper) (i : Nat) (a : Act) (j : Nat) (o : Oper), l[j]? = some o → o.dst = some k → k < a.tmps.size → (∀ (j' : Nat) (o' : Oper), l[j']? = some o' → o'.dst = some k → j' = j) → (putsAt vs i l a).tmps[k]?.getD undef = vs (i + j)
  | [], _, _, _, _, h, _, _, _ => by simp at h
  | x :: l, i, a, 0, o, h, hd, hk, hu => by
    simp at h; subst h
    rw [putsAt, putsAt_getD vs k l (i + 1) _ (fun j o' hj hd' => by have := hu (j + 1) o' (by simpa using hj) hd'; omega), hd, put_getD_self _ _ _ hk]; rfl
  | x :: l, i, a, j + 1, o, h, hd, hk, hu => by
    rw [putsAt, putsAt_get vs k l (i + 1) _ j o (by simpa using h) hd (by rw [put_tmps_size]; exact hk) (fun j' o' hj' hd' => by have := hu (j' + 1) o' (by simpa using hj') hd'; omega)]
    congr 1; omega

/-- **A region that draws its order.** -/
theorem wp_region_steps {id : Nat} {l : List Oper} (T : World → World → Prop) (φ : Nat → Value → World → Prop) (hm : P.follows .mixedOrders = true) (hp : Region.plain l.toArray a0.tmps.size = true)
    (hrf : ∀ w, T w w) (htr : ∀ x y z : World, T x y → T y z → T x z) (hst : ∀ i v w w', T w w' → φ i v w → φ i v w')
    (hs : StepsAt P l.toArray Q T φ a0 w0.drew 0 l)
    (hfin : ∀ (vs : Nat → Value) w, T w0.drew w → AllAt φ vs w 0 l → Q .normal (putsAt vs 0 l a0) w) : (Code.region id l.toArray true).wp P Q a0 w0 := by
  refine wp_region_any hm (RegInv.any hp htr hst (by simpa using hs) ?_ _ _ _ _ ?_ ?_)
  · intro listed a w inv hall
    have hput : a = putsAt (fun i => slotAt a (dstAt l.toArray i)) 0 l a0 := by
      have hsz : a.tmps.size = (putsAt (fun i => slotAt a (dstAt l.toArray i)) 0 l a0).tmps.size := by rw [putsAt_size, inv.frame]
      have hd : a.defers = (putsAt (fun i => slotAt a (dstAt l.toArray i)) 0 l a0).defers := by rw [putsAt_defers, inv.defers]
      have ht : a.tmps = (putsAt (fun i => slotAt a (dstAt l.toArray i)) 0 l a0).tmps := by
        apply Array.ext hsz
        intro k hk1 hk2
        have hg : a.tmps[k]?.getD undef = (putsAt (fun i => slotAt a (dstAt l.toArray i)) 0 l a0).tmps[k]?.getD undef := by
          by_cases hex : ∃ (j : Nat) (o : Oper), l[j]? = some o ∧ o.dst = some k
          · obtain ⟨j, o, ho, hdo⟩ := hex
            have hoa : l.toArray[j]? = some o := by simpa using ho
            have hsp := (plain_spec hp hoa).2 k hdo
            rw [putsAt_get _ k l 0 a0 j o ho hdo hsp.1 (fun j' o' hj' hd' => by
              by_cases he : j' = j
              · exact he
              · exact absurd (by simp [dstAt, hj', hd'] : dstAt l.toArray j' = some k) (hsp.2 j' (by have := (List.getElem?_eq_some_iff.1 hj').1; simpa using this) he))]
            simp only [Nat.zero_add, dstAt, hoa, Option.bind_some, hdo, slotAt]
          · rw [putsAt_getD _ k l 0 a0 (fun j o ho hdo => hex ⟨j, o, ho, hdo⟩)]
            refine inv.same k fun j hj hdj => ?_
            have hjl : j < l.toArray.size := by
              rcases Nat.lt_or_ge j l.toArray.size with h' | h'
              · exact h'
              · rw [← inv.size] at h'; simp [Array.getElem?_eq_none h'] at hj
            have hoj : l.toArray[j]? = some l.toArray[j] := Array.getElem?_eq_getElem hjl
            exact hex ⟨j, l.toArray[j], by simp, by simpa [dstAt, hoj] using hdj⟩
        rw [Array.getElem?_eq_getElem hk1, Array.getElem?_eq_getElem hk2] at hg
        exact hg
      cases a with
      | mk t d => simp only at ht hd; cases hq : putsAt (fun i => slotAt (Act.mk t d) (dstAt l.toArray i)) 0 l a0 with | mk t' d' => rw [hq] at ht hd; simp only at ht hd; subst ht hd; rfl
    rw [hput]
    exact hfin _ w inv.world (AllAt.of l 0 fun i hi => by rw [Nat.zero_add]; exact inv.vals i (hall i (by simpa using hi)))
  · simp [marked, List.countP_replicate]
  · refine ⟨hrf _, by simp, rfl, rfl, fun _ _ => rfl, fun j hj => ?_, fun j o _ hj => ?_⟩
    · simp [Array.getElem?_replicate] at hj; split at hj <;> simp at hj
    · simp [Array.getElem?_replicate] at hj; split at hj <;> simp at hj

/-- What is known of an operation's value: it stands while the world goes on. -/
def St (T : World → World → Prop) : Type := { p : Value → World → Prop // ∀ v w w', T w w' → p v w → p v w' }
def St.is {T : World → World → Prop} (x : Value) : St T := ⟨fun v _ => v = x, fun _ _ _ _ h => h⟩
def St.pred {T : World → World → Prop} (p : Value → World → Prop) (h : ∀ v w w', T w w' → p v w → p v w') : St T := ⟨p, h⟩

/-- **A region that draws its order, with a list of what is known of each value.** -/
theorem wp_region_list' {id : Nat} {l : List Oper} {T : World → World → Prop} (L : List (St T)) (hm : P.follows .mixedOrders = true) (hp : Region.plain l.toArray a0.tmps.size = true)
    (hrf : ∀ w, T w w) (htr : ∀ x y z : World, T x y → T y z → T x z)
    (hs : StepsAt P l.toArray Q T (fun i v w => (L.getD i (St.is undef)).1 v w) a0 w0.drew 0 l)
    (hfin : ∀ (vs : Nat → Value) w, T w0.drew w → AllAt (fun i v w => (L.getD i (St.is undef)).1 v w) vs w 0 l → Q .normal (putsAt vs 0 l a0) w) : (Code.region id l.toArray true).wp P Q a0 w0 :=
  wp_region_steps T _ hm hp hrf htr (fun i v w w' hT h => (L.getD i (St.is undef)).2 v w w' hT h) hs hfin
/-! ### What each operation's proof begins with -/
/-- An operation without a guard. -/
theorem step_free {ops : Array Oper} {o : Oper} {a : Act} {w : World} {K : Act → World → Prop} (hg : o.guard = none) (h : Oper.wp P o a w K Q) :
    if Region.wanted o (yielded ops a.tmps) = true then Oper.wp P o a w K Q else K (a.put o.dst undef) w := by
  rw [if_pos (by simp [Region.wanted, hg])]; exact h
end

/-! ### The relation of worlds: all that was there stands, but for one variable R of n cells, which ends as 'cs' once it is so -/
structure TR (R n : Nat) (cs : List Value) (w w' : World) : Prop where
  grown : w.grownBy w' (some R)
  there : w.there R 0 n → w'.there R 0 n
  fin : w.rangeAt R 0 cs → w'.rangeAt R 0 cs
theorem TR.refl (R n : Nat) (cs : List Value) (w : World) : TR R n cs w w := ⟨World.grownBy.refl w _, id, id⟩
theorem grown_trans {a b c : World} {row : Option Nat} (h : a.grownBy b row) (k : b.grownBy c row) : a.grownBy c row :=
  ⟨k.os.trans h.os, k.tape.trans h.tape, k.output.trans h.output, Nat.le_trans h.size k.size, fun i hi hne => (k.block i (Nat.lt_of_lt_of_le hi h.size) hne).trans (h.block i hi hne)⟩
theorem TR.trans (R n : Nat) (cs : List Value) (x y z : World) (h : TR R n cs x y) (k : TR R n cs y z) : TR R n cs x z :=
  ⟨grown_trans h.grown k.grown, fun q => k.there (h.there q), fun q => k.fin (h.fin q)⟩
theorem TR.of_below {R n : Nat} {cs : List Value} {w w' : World} (hR : R < w.heap.size) (h : Below w.heap.size w w') : TR R n cs w w' :=
  ⟨⟨h.os, h.tape, h.output, h.size, fun k hk _ => h.block k hk⟩,
   fun q j hj => ⟨by rw [h.cell (p := ⟨R, 0 + j, none⟩) hR]; exact (q j hj).1, by rw [h.frozen (p := ⟨R, 0 + j, none⟩) hR]; exact (q j hj).2⟩,
   fun q j v hv => by rw [h.cell (p := ⟨R, 0 + j, none⟩) hR]; exact q j v hv⟩
theorem TR.cell {R n : Nat} {cs : List Value} {w w' : World} (h : TR R n cs w w') {b o : Nat} (hb : b < w.heap.size) (hne : b ≠ R) : w'.cell? ⟨b, o, none⟩ = w.cell? ⟨b, o, none⟩ :=
  World.cell?_of_block (h.grown.block b hb (fun e => hne (by injection e)))
theorem grown_setCells {R : Nat} : ∀ (vs : List Value) (o : Nat) (w : World), w.grownBy (w.setCells R o vs) (some R)
  | [], _, w => World.grownBy.refl w _
  | v :: vs, o, w => by
    have h1 : w.grownBy (w.setCell ⟨R, o, none⟩ v) (some R) := ⟨rfl, rfl, rfl, by simp [World.setCell], fun k _ hne => Below.heap_setCell w ⟨R, o, none⟩ v k (fun e => hne (by rw [e]))⟩
    exact grown_trans h1 (grown_setCells vs (o + 1) (w.setCell ⟨R, o, none⟩ v))
theorem TR.store {R n : Nat} {cs : List Value} {w : World} (ht : w.there R 0 n) (hn : cs.length = n) : TR R n cs w (w.setCells R 0 cs) ∧ (w.setCells R 0 cs).rangeAt R 0 cs := by
  have hr := World.rangeAt_setCells_same w R 0 cs (by rw [hn]; exact ht)
  exact ⟨⟨grown_setCells cs 0 w, fun q => World.there_setCells q R 0 cs, fun _ => hr⟩, hr⟩
theorem TR.below {R n B : Nat} {cs : List Value} {w0 w w' : World} (h : TR R n cs w w') (hb : Below B w0 w) (hB : B ≤ R) (hs : w0.heap.size = B) : Below B w0 w' :=
  hb.grown h.grown (by have := hb.size; omega) (fun k hk => by injection hk with hk; omega)
/-- All that was there stands. -/
def TB (w w' : World) : Prop := Below w.heap.size w w'
theorem TB.refl (w : World) : TB w w := Below.refl _ _
theorem TB.trans (x y z : World) (h : TB x y) (k : TB y z) : TB x z := Below.trans h (Below.mono k h.size)
theorem TB.cell {w w' : World} (h : TB w w') {b o : Nat} (hb : b < w.heap.size) : w'.cell? ⟨b, o, none⟩ = w.cell? ⟨b, o, none⟩ := Below.cell h (p := ⟨b, o, none⟩) hb
theorem TB.alloc (w : World) (o : Obj) : TB w (w.alloc o) := (Below.refl _ _).alloc (Nat.le_refl _) o
end Go.Proofs.YtahemenhcoedgaaDoor
