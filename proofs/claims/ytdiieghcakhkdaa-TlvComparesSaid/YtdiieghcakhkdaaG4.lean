/- Several texts in one. -/
import Derived.Test.YtdiieghcakhkdaaG3
import Derived.Test.YtdiieghcakhkdaaG2
import Derived.ProofKit
import Derived.OpenShut
import Derived.ChangeOld
import Derived.Below

set_option linter.unusedSimpArgs false
set_option linter.unusedVariables false
set_option linter.unusedSectionVars false
/- Functions of the program in plain Lean, joined to the program by evaluation; printed by a program. -/
namespace Go.Proofs.Ytdiieghcakhkdaa.En
open Go Go.Proofs
set_option maxRecDepth 100000
set_option linter.unusedVariables false
noncomputable def e_EqualFuncS {R : Type} (s : List V → List V → Option (Bool)) (ds : List D) (K : List D → Option R) : Option R :=
  match ds with
  | [.v (.sl 40 x0) .no, .v (.sl 40 x1) .no, .clos 49 []] => bnd1 (s x0 x1) fun r0 => K [.v (.bool r0) .no]
  | _ => none
noncomputable def r_EqualFuncS (rs : List D) (_ : Mem) : Option (Bool) :=
  match rs with
  | [.v (.bool r0) _] => some (r0)
  | _ => none
noncomputable def F_EqualFuncS_4 {R : Type} (N : Nat) (f : List V → List V → Option (Bool)) (vs0 : List V) (vs1 : List V) (n2 : Int) (Lq : Int → Option R) (K0 : Bool → Option R) (K1 : Option R) (n3 : Int) : Option R :=
  br (decide (n3 < n2))
  (br (decide (0 ≤ n3) && decide (n3 < (↑vs1.length : Int)))
    (at? vs1 n3.toNat fun x0 =>
      x0.unAgg fun l1 =>
        unCons l1 fun x2 l3 =>
          V.unInt IntKind.i64 x2 fun n4 =>
            unCons l3 fun x5 l6 =>
              x5.unBytes fun l7 =>
                unCons l6 fun x8 l9 =>
                  V.unSl 40 x8 fun l10 =>
                    unNil l9
                      (br (decide (0 ≤ n3) && decide (n3 < (↑vs0.length : Int)))
                        (at? vs0 n3.toNat fun x11 =>
                          x11.unAgg fun l12 =>
                            unCons l12 fun x13 l14 =>
                              V.unInt IntKind.i64 x13 fun n15 =>
                                unCons l14 fun x16 l17 =>
                                  x16.unBytes fun l18 => unCons l17 fun x19 l20 => V.unSl 40 x19 fun l21 => unNil l20 (bnd1 (s_Same1 N f n4 l7 l10 n15 l18 l21) fun b22 => br (!b22) (K0 false) (Lq (IntKind.i64.wrap (n3 + 1)))))
                        none))
    none)
  K1
noncomputable def S_EqualFuncS_4 {R : Type} (N : Nat) (f : List V → List V → Option (Bool)) (vs0 : List V) (vs1 : List V) (n2 : Int) : Nat → Int → (Bool → Option R) → (Option R) → Option R
  | 0, _, _, _ => none
  | t + 1, n3, K0, K1 => F_EqualFuncS_4 N f vs0 vs1 n2 (fun n3 => S_EqualFuncS_4 N f vs0 vs1 n2 t n3 K0 K1) K0 K1 n3
noncomputable def l_EqualFuncS_4 {R : Type} (N : Nat) (f : List V → List V → Option (Bool)) (ds : List D) (m : Mem) (K : Ex → List D → Mem → Option R) : Option R :=
  match ds, m with
  | [(.v (.sl 40 vs0) .no), (.clos 49 []), (.v (.sl 40 vs1) .no), (.v (.int .i64 n2) .no), (.v (.int .i64 n3) .no)], [[]] => S_EqualFuncS_4 N f vs0 vs1 n2 N n3 (fun a0 => K .ret [(.v (.bool a0) .no)] [[]]) (K (.exit 0) [.any] [[]])
  | _, _ => none
noncomputable def s_EqualFuncS (N : Nat) (f : List V → List V → Option (Bool)) (x0 : List V) (x1 : List V) : Option (Bool) :=
  br (!decide ((↑x0.length : Int) = (↑x1.length : Int))) (some false) (S_EqualFuncS_4 N f x1 x0 (↑x0.length : Int) N 0 (fun b0 => some b0) (some true))
noncomputable def cx_EqualFuncS (N : Nat) (f : List V → List V → Option (Bool)) : Cx := { T := T, isPure := tabP [⟨49, e_Same1 (s_Same1 N f)⟩], pureK := fun g ds K => tabK [⟨49, e_Same1 (s_Same1 N f)⟩] g ds K, memK := fun g dst ds m K => tabMK [] g dst ds m K, meth := tabM [], keep := fun r => match r with | 4 => [1, 2, 15, 16, 17] | _ => [], keepX := fun r => match r with | 4 => [6] | _ => [], loopT := fun r ds m K => match r with | 4 => l_EqualFuncS_4 N f ds m K | _ => none, jumps := 9 }
theorem F_EqualFuncS_4_ok {R : Type} (N : Nat) (f : List V → List V → Option (Bool)) (vs0 : List V) (vs1 : List V) (n2 : Int) (n3 : Int) (L : List D → Mem → Option R) (K : Ex → List D → Mem → Option R) :
    roundK (fun st K => codeK (cx_EqualFuncS N f) (loopN Try.f48 0) st K) 32 [1, 2, 15, 16, 17] [6] L [(.v (.sl 40 vs0) .no), (.clos 49 []), (.v (.sl 40 vs1) .no), (.v (.int .i64 n2) .no), (.v (.int .i64 n3) .no)] [[]] K = F_EqualFuncS_4 N f vs0 vs1 n2 (fun n3 => L [(.v (.sl 40 vs0) .no), (.clos 49 []), (.v (.sl 40 vs1) .no), (.v (.int .i64 n2) .no), (.v (.int .i64 n3) .no)] [[]]) (fun a0 => K .ret [(.v (.bool a0) .no)] [[]]) (K (.exit 0) [.any] [[]]) n3 := by
  kernel_rfl
theorem S_EqualFuncS_4_ok {R : Type} (N : Nat) (f : List V → List V → Option (Bool)) (vs0 : List V) (vs1 : List V) (n2 : Int) (K : Ex → List D → Mem → Option R) : ∀ (t : Nat) (n3 : Int),
    loopK (fun st K => codeK (cx_EqualFuncS N f) (loopN Try.f48 0) st K) 32 [1, 2, 15, 16, 17] [6] t [(.v (.sl 40 vs0) .no), (.clos 49 []), (.v (.sl 40 vs1) .no), (.v (.int .i64 n2) .no), (.v (.int .i64 n3) .no)] [[]] K = S_EqualFuncS_4 N f vs0 vs1 n2 t n3 (fun a0 => K .ret [(.v (.bool a0) .no)] [[]]) (K (.exit 0) [.any] [[]])
  | 0, n3 => rfl
  | t + 1, n3 => (F_EqualFuncS_4_ok N f vs0 vs1 n2 n3 _ K).trans (congrArg (fun L => F_EqualFuncS_4 N f vs0 vs1 n2 L (fun a0 => K .ret [(.v (.bool a0) .no)] [[]]) (K (.exit 0) [.any] [[]]) n3) (funext fun n3 => S_EqualFuncS_4_ok N f vs0 vs1 n2 K t n3))
theorem s_EqualFuncS_ok (N : Nat) (f : List V → List V → Option (Bool)) (x0 : List V) (x1 : List V) : bodyK (cx_EqualFuncS N f) Try.f48 [.v (.sl 40 x0) .no, .v (.sl 40 x1) .no, .clos 49 []] [] r_EqualFuncS = s_EqualFuncS N f x0 x1 := by
  kernel_rfl
theorem go_EqualFuncS : Goes Try.prog 48 := goes_of Try.func48 (by kernel_rfl) (c := bodyOf Try.f48) (by kernel_rfl)
theorem eo_EqualFuncS (s : List V → List V → Option (Bool)) (hs : ∀ (x0 : List V) (x1 : List V) (r0 : Bool), s x0 x1 = some r0 → PureRet Try.prog T 48 [.v (.sl 40 x0) .no, .v (.sl 40 x1) .no, .clos 49 []] [.v (.bool r0) .no]) : EntOK Try.prog T ⟨48, e_EqualFuncS s⟩ := by
  refine ⟨go_EqualFuncS, fun R ds K r h => ?_, fun R ds K => ?_⟩
  · simp only [e_EqualFuncS] at h
    split at h
    · obtain ⟨r0, h1, h2⟩ := bnd1_some h
      exact ⟨_, h2, hs _ _ _ h1⟩
    · cases h
  · simp only [e_EqualFuncS]
    split
    · rw [bnd1_b]; rfl
    · rfl
theorem co_EqualFuncS (N : Nat) (f : List V → List V → Option (Bool)) (hf : ∀ (x0 : List V) (x1 : List V) (r0 : Bool), f x0 x1 = some r0 → PureRet Try.prog T 29 [.v (.sl 40 x0) .no, .v (.sl 40 x1) .no] [.v (.bool r0) .no]) : CxOK Try.prog (cx_EqualFuncS N f) :=
  cxOK_of2 (es := [⟨49, e_Same1 (s_Same1 N f)⟩]) (me := []) (ms := []) T_ok ⟨eo_Same1 _ (p_Same1 N f hf), trivial⟩ trivial trivial rfl (fun _ _ _ _ => rfl) (fun _ _ _ _ _ _ => rfl) rfl
theorem lk_EqualFuncS_4 (N : Nat) (f : List V → List V → Option (Bool)) : LoopOK (cx_EqualFuncS N f) 32 (loopN Try.f48 0) := by
  refine loopOK_of (rid := 4) (by kernel_rfl) rfl rfl fun R ds m K r h => ?_
  have h : l_EqualFuncS_4 N f ds m K = some r := h
  unfold l_EqualFuncS_4 at h
  split at h
  · exact ⟨N, Eq.trans (S_EqualFuncS_4_ok ..) h⟩
  · cases h
theorem lo_EqualFuncS (N : Nat) (f : List V → List V → Option (Bool)) : LoopsOK (cx_EqualFuncS N f) Try.f48.ntmps (bodyOf Try.f48) :=
  loopsOK_of (k := 1) (by kernel_rfl) ⟨trivial, lk_EqualFuncS_4 N f⟩
theorem p_EqualFuncS (N : Nat) (f : List V → List V → Option (Bool)) (hf : ∀ (x0 : List V) (x1 : List V) (r0 : Bool), f x0 x1 = some r0 → PureRet Try.prog T 29 [.v (.sl 40 x0) .no, .v (.sl 40 x1) .no] [.v (.bool r0) .no]) (x0 : List V) (x1 : List V) (r0 : Bool) (h : s_EqualFuncS N f x0 x1 = some r0) : PureRet Try.prog T 48 [.v (.sl 40 x0) .no, .v (.sl 40 x1) .no, .clos 49 []] [.v (.bool r0) .no] :=
  pure_of (cx := cx_EqualFuncS N f) (by kernel_rfl) (co_EqualFuncS N f hf) Try.func48 (by kernel_rfl) (by kernel_rfl) (lo_EqualFuncS N f) rfl rfl rfl (rf := r_EqualFuncS) ((s_EqualFuncS_ok N f x0 x1).trans h) (fun rs' m h => by
    unfold r_EqualFuncS at h
    split at h
    · cases h; exact ⟨rfl, rfl⟩
    · cases h)
noncomputable def r_Same (rs : List D) (_ : Mem) : Option (Bool) :=
  match rs with
  | [.v (.bool r0) _] => some (r0)
  | _ => none
noncomputable def B_Same (N : Nat) (f : List V → List V → Option (Bool)) (x0 : List V) (x1 : List V) : Option (Bool) :=
  bnd1 (s_EqualFuncS N f x0 x1) fun b0 => some b0
noncomputable def s_Same (N : Nat) : Nat → List V → List V → Option (Bool)
  | 0, _, _ => none
  | n + 1, x0, x1 => B_Same N (s_Same N n) x0 x1
noncomputable def cx_Same (N : Nat) (f : List V → List V → Option (Bool)) : Cx := { T := T, isPure := tabP [⟨29, e_Same f⟩, ⟨48, e_EqualFuncS (s_EqualFuncS N f)⟩, ⟨49, e_Same1 (s_Same1 N f)⟩], pureK := fun g ds K => tabK [⟨29, e_Same f⟩, ⟨48, e_EqualFuncS (s_EqualFuncS N f)⟩, ⟨49, e_Same1 (s_Same1 N f)⟩] g ds K, memK := fun g dst ds m K => tabMK [] g dst ds m K, meth := tabM [], keep := fun _ => [], keepX := fun _ => [], loopT := fun _ _ _ _ => none, jumps := 9 }
theorem B_Same_ok (N : Nat) (f : List V → List V → Option (Bool)) (x0 : List V) (x1 : List V) : bodyK (cx_Same N f) Try.f29 [.v (.sl 40 x0) .no, .v (.sl 40 x1) .no] [] r_Same = B_Same N f x0 x1 := by
  kernel_rfl
theorem co_Same (N : Nat) (f : List V → List V → Option (Bool)) (hf : ∀ (x0 : List V) (x1 : List V) (r0 : Bool), f x0 x1 = some r0 → PureRet Try.prog T 29 [.v (.sl 40 x0) .no, .v (.sl 40 x1) .no] [.v (.bool r0) .no]) : CxOK Try.prog (cx_Same N f) :=
  cxOK_of2 (es := [⟨29, e_Same f⟩, ⟨48, e_EqualFuncS (s_EqualFuncS N f)⟩, ⟨49, e_Same1 (s_Same1 N f)⟩]) (me := []) (ms := []) T_ok ⟨eo_Same f hf, eo_EqualFuncS _ (p_EqualFuncS N f hf), eo_Same1 _ (p_Same1 N f hf), trivial⟩ trivial trivial rfl (fun _ _ _ _ => rfl) (fun _ _ _ _ _ _ => rfl) rfl
theorem lo_Same (N : Nat) (f : List V → List V → Option (Bool)) : LoopsOK (cx_Same N f) Try.f29.ntmps (bodyOf Try.f29) :=
  loopsOK_of (k := 0) (by kernel_rfl) trivial
theorem p_Same (N : Nat) : ∀ (M : Nat) (x0 : List V) (x1 : List V) (r0 : Bool), s_Same N M x0 x1 = some r0 → PureRet Try.prog T 29 [.v (.sl 40 x0) .no, .v (.sl 40 x1) .no] [.v (.bool r0) .no]
  | 0, _, _, _, h => by cases h
  | M + 1, x0, x1, r0, h => pure_of (cx := cx_Same N (s_Same N M)) (by kernel_rfl) (co_Same N (s_Same N M) (p_Same N M)) Try.func29 (by kernel_rfl) (by kernel_rfl) (lo_Same N (s_Same N M)) rfl rfl rfl (rf := r_Same) ((B_Same_ok N (s_Same N M) x0 x1).trans h) (fun rs' m h => by
    unfold r_Same at h
    split at h
    · cases h; exact ⟨rfl, rfl⟩
    · cases h)
noncomputable def e_copyCheck {R : Type} (s : List UInt8 → Option (Unit)) (dst : Nat) (ds : List D) (m : Mem) (K : List D → Mem → Option R) : Option R :=
  match ds with
  | [.ptr (kv0 + 1) sv0 0] => viewK [(kv0, sv0)] m fun Bs => (match Bs with
    | [⟨50, [.bld, .v (.bytes y0) (.own (.slot 0) 5)]⟩] => bnd1 (s y0) fun _ => putAllK [(kv0, sv0)] [⟨50, [.bld, .v (.bytes y0) (.own (.slot 0) 5)]⟩] m fun m' => K [] m'
    | _ => none)
  | _ => none
theorem go_copyCheck : Goes Try.prog 56 := goes_of Try.func56 (by kernel_rfl) (c := bodyOf Try.f56) (by kernel_rfl)
theorem eo_copyCheck (s : List UInt8 → Option (Unit)) (hs : ∀ (y0 : List UInt8) , s y0 = some () → ViewRet Try.prog T 56 [.ptr 1 0 0] [⟨50, [.bld, .v (.bytes y0) (.own (.slot 0) 5)]⟩] [] [⟨50, [.bld, .v (.bytes y0) (.own (.slot 0) 5)]⟩]) : MEntOK Try.prog T ⟨56, e_copyCheck s⟩ := by
  refine ⟨go_copyCheck, fun R dst ds m K r h => ?_⟩
  simp only [e_copyCheck] at h
  split at h
  · obtain ⟨Bs, a1, a2, a3, h⟩ := viewK_some h
    split at h
    · obtain ⟨_, h1, h2⟩ := bnd1_some h
      rw [putAllK_eq] at h2
      exact ⟨_, _, h2, hs _ h1 _ _ m dst a1 a2 a3 ⟨aren_ptr _ rfl, trivial⟩⟩
    · cases h
  · cases h
noncomputable def e_WriteString {R : Type} (s : List UInt8 → List UInt8 → Option (Int × List UInt8)) (dst : Nat) (ds : List D) (m : Mem) (K : List D → Mem → Option R) : Option R :=
  match ds with
  | [.ptr (kv0 + 1) sv0 0, .v (.str x0) .no] => viewK [(kv0, sv0)] m fun Bs => (match Bs with
    | [⟨50, [.bld, .v (.bytes y0) (.own (.slot 0) 5)]⟩] => bnd2 (s x0 y0) fun r0 z0 => putAllK [(kv0, sv0)] [⟨50, [.bld, .v (.bytes z0) (.own (.slot 0) 5)]⟩] m fun m' => K [.v (.int .i64 r0) .no, .v .nilI .no] m'
    | _ => none)
  | _ => none
noncomputable def r_WriteString {α : Type} (K : Int → List UInt8 → Option α) (rs : List D) (m : Mem) : Option α :=
  match rs, m with
  | [.v (.int .i64 r0) _, .v .nilI _], [_, [(0, ⟨50, [.bld, .v (.bytes z0) (.own (.slot 0) 5)]⟩)]] => K r0 z0
  | _, _ => none
noncomputable def C_WriteString {R : Type} (N : Nat) (x0 : List UInt8) (y0 : List UInt8) (K0 : Int → List UInt8 → Option R) : Option R :=
  bnd1 (s_copyCheck N y0) fun x0_1 => br (decide ((y0.length + x0.length) * 1 ≤ 140737488355328)) (K0 (↑x0.length : Int) (y0 ++ x0)) none
noncomputable def s_WriteString (N : Nat) (x0 : List UInt8) (y0 : List UInt8) : Option (Int × List UInt8) :=
  C_WriteString N x0 y0 (fun r0 z0 => some (r0, z0))
noncomputable def cx_WriteString (N : Nat) : Cx := { T := T, isPure := tabP [], pureK := fun g ds K => tabK [] g ds K, memK := fun g dst ds m K => tabMK [⟨56, e_copyCheck (s_copyCheck N)⟩] g dst ds m K, meth := tabM [], keep := fun _ => [], keepX := fun _ => [], loopT := fun _ _ _ _ => none, jumps := 9 }
theorem C_WriteString_ok {R : Type} (N : Nat) (x0 : List UInt8) (y0 : List UInt8) (K : Int → List UInt8 → Option R) : bodyK (cx_WriteString N) Try.f35 [.ptr 1 0 0, .v (.str x0) .no] [frOf 0 [⟨50, [.bld, .v (.bytes y0) (.own (.slot 0) 5)]⟩]] (r_WriteString K) = C_WriteString N x0 y0 (fun r0 z0 => K r0 z0) := by
  kernel_rfl
theorem go_WriteString : Goes Try.prog 35 := goes_of Try.func35 (by kernel_rfl) (c := bodyOf Try.f35) (by kernel_rfl)
theorem eo_WriteString (s : List UInt8 → List UInt8 → Option (Int × List UInt8)) (hs : ∀ (x0 : List UInt8) (y0 : List UInt8) (r0 : Int) (z0 : List UInt8), s x0 y0 = some (r0, z0) → ViewRet Try.prog T 35 [.ptr 1 0 0, .v (.str x0) .no] [⟨50, [.bld, .v (.bytes y0) (.own (.slot 0) 5)]⟩] [.v (.int .i64 r0) .no, .v .nilI .no] [⟨50, [.bld, .v (.bytes z0) (.own (.slot 0) 5)]⟩]) : MEntOK Try.prog T ⟨35, e_WriteString s⟩ := by
  refine ⟨go_WriteString, fun R dst ds m K r h => ?_⟩
  simp only [e_WriteString] at h
  split at h
  · obtain ⟨Bs, a1, a2, a3, h⟩ := viewK_some h
    split at h
    · obtain ⟨r0, z0, h1, h2⟩ := bnd2_some h
      rw [putAllK_eq] at h2
      exact ⟨_, _, h2, hs _ _ _ _ h1 _ _ m dst a1 a2 a3 ⟨aren_ptr _ rfl, aren_v _, trivial⟩⟩
    · cases h
  · cases h
theorem co_WriteString (N : Nat) : CxOK Try.prog (cx_WriteString N) :=
  cxOK_of2 (es := []) (me := [⟨56, e_copyCheck (s_copyCheck N)⟩]) (ms := []) T_ok trivial ⟨eo_copyCheck _ (p_copyCheck N), trivial⟩ trivial rfl (fun _ _ _ _ => rfl) (fun _ _ _ _ _ _ => rfl) rfl
theorem lo_WriteString (N : Nat) : LoopsOK (cx_WriteString N) Try.f35.ntmps (bodyOf Try.f35) :=
  loopsOK_of (k := 0) (by kernel_rfl) trivial
open Classical in
theorem p_WriteString (N : Nat) (x0 : List UInt8) (y0 : List UInt8) (r0 : Int) (z0 : List UInt8) (h : s_WriteString N x0 y0 = some (r0, z0)) : ViewRet Try.prog T 35 [.ptr 1 0 0, .v (.str x0) .no] [⟨50, [.bld, .v (.bytes y0) (.own (.slot 0) 5)]⟩] [.v (.int .i64 r0) .no, .v .nilI .no] [⟨50, [.bld, .v (.bytes z0) (.own (.slot 0) 5)]⟩] := by
  refine view_of (Bs := [⟨50, [.bld, .v (.bytes y0) (.own (.slot 0) 5)]⟩]) (Bs' := [⟨50, [.bld, .v (.bytes z0) (.own (.slot 0) 5)]⟩]) (cx := cx_WriteString N) (by kernel_rfl) (co_WriteString N) Try.func35 (by kernel_rfl) (by kernel_rfl) (lo_WriteString N) rfl rfl rfl rfl (rf := r_WriteString (fun r0' z'0 => some (r0', z'0))) (r := (r0, z0)) ?_ ?_
  · exact (C_WriteString_ok N x0 y0 _).trans h
  · intro rs' m' hx
    unfold r_WriteString at hx
    split at hx
    · cases hx; exact ⟨rfl, rfl, _, rfl⟩
    · cases hx
noncomputable def e_bString {R : Type} (s : List UInt8 → Option (List UInt8)) (dst : Nat) (ds : List D) (m : Mem) (K : List D → Mem → Option R) : Option R :=
  match ds with
  | [.ptr (kv0 + 1) sv0 0] => viewK [(kv0, sv0)] m fun Bs => (match Bs with
    | [⟨50, [.bld, .v (.bytes y0) (.own (.slot 0) 5)]⟩] => bnd1 (s y0) fun r0 => putAllK [(kv0, sv0)] [⟨50, [.bld, .v (.bytes y0) .no]⟩] m fun m' => K [.v (.str r0) .no] m'
    | _ => none)
  | _ => none
theorem go_bString : Goes Try.prog 38 := goes_of Try.func38 (by kernel_rfl) (c := bodyOf Try.f38) (by kernel_rfl)
theorem eo_bString (s : List UInt8 → Option (List UInt8)) (hs : ∀ (y0 : List UInt8) (r0 : List UInt8), s y0 = some r0 → ViewRet Try.prog T 38 [.ptr 1 0 0] [⟨50, [.bld, .v (.bytes y0) (.own (.slot 0) 5)]⟩] [.v (.str r0) .no] [⟨50, [.bld, .v (.bytes y0) .no]⟩]) : MEntOK Try.prog T ⟨38, e_bString s⟩ := by
  refine ⟨go_bString, fun R dst ds m K r h => ?_⟩
  simp only [e_bString] at h
  split at h
  · obtain ⟨Bs, a1, a2, a3, h⟩ := viewK_some h
    split at h
    · obtain ⟨r0, h1, h2⟩ := bnd1_some h
      rw [putAllK_eq] at h2
      exact ⟨_, _, h2, hs _ _ h1 _ _ m dst a1 a2 a3 ⟨aren_ptr _ rfl, trivial⟩⟩
    · cases h
  · cases h
noncomputable def e_Find1 {R : Type} (s : Int → List UInt8 → List V → Int → Option (Bool)) (dst : Nat) (ds : List D) (m : Mem) (K : List D → Mem → Option R) : Option R :=
  match ds with
  | [.agg [.v (.int .i64 x0) .no, .v (.bytes x1) .no, .v (.sl 40 x2) .no], .ptr (kv0 + 1) sv0 0] => viewK [(kv0, sv0)] m fun Bs => (match Bs with
    | [⟨3, [.v (.int .i64 y0) .no]⟩] => bnd1 (s x0 x1 x2 y0) fun r0 => putAllK [(kv0, sv0)] [⟨3, [.v (.int .i64 y0) .no]⟩] m fun m' => K [.v (.bool r0) .no] m'
    | _ => none)
  | _ => none
noncomputable def r_Find1 {α : Type} (K : Bool → Int → Option α) (rs : List D) (m : Mem) : Option α :=
  match rs, m with
  | [.v (.bool r0) _], [_, [(0, ⟨3, [.v (.int .i64 z0) .no]⟩)]] => K r0 z0
  | _, _ => none
noncomputable def C_Find1 {R : Type} (N : Nat) (x0 : Int) (x1 : List UInt8) (x2 : List V) (y0 : Int) (K0 : Bool → Option R) : Option R :=
  K0 (decide (x0 = y0))
noncomputable def s_Find1 (N : Nat) (x0 : Int) (x1 : List UInt8) (x2 : List V) (y0 : Int) : Option (Bool) :=
  C_Find1 N x0 x1 x2 y0 (fun r0 => some r0)
noncomputable def cx_Find1 (N : Nat) : Cx := { T := T, isPure := tabP [], pureK := fun g ds K => tabK [] g ds K, memK := fun g dst ds m K => tabMK [] g dst ds m K, meth := tabM [], keep := fun _ => [], keepX := fun _ => [], loopT := fun _ _ _ _ => none, jumps := 9 }
theorem C_Find1_ok {R : Type} (N : Nat) (x0 : Int) (x1 : List UInt8) (x2 : List V) (y0 : Int) (K : Bool → Int → Option R) : bodyK (cx_Find1 N) Try.f46 [.agg [.v (.int .i64 x0) .no, .v (.bytes x1) .no, .v (.sl 40 x2) .no], .ptr 1 0 0] [frOf 0 [⟨3, [.v (.int .i64 y0) .no]⟩]] (r_Find1 K) = C_Find1 N x0 x1 x2 y0 (fun r0 => K r0 y0) := by
  kernel_rfl
theorem go_Find1 : Goes Try.prog 46 := goes_of Try.func46 (by kernel_rfl) (c := bodyOf Try.f46) (by kernel_rfl)
theorem eo_Find1 (s : Int → List UInt8 → List V → Int → Option (Bool)) (hs : ∀ (x0 : Int) (x1 : List UInt8) (x2 : List V) (y0 : Int) (r0 : Bool), s x0 x1 x2 y0 = some r0 → ViewRet Try.prog T 46 [.agg [.v (.int .i64 x0) .no, .v (.bytes x1) .no, .v (.sl 40 x2) .no], .ptr 1 0 0] [⟨3, [.v (.int .i64 y0) .no]⟩] [.v (.bool r0) .no] [⟨3, [.v (.int .i64 y0) .no]⟩]) : MEntOK Try.prog T ⟨46, e_Find1 s⟩ := by
  refine ⟨go_Find1, fun R dst ds m K r h => ?_⟩
  simp only [e_Find1] at h
  split at h
  · obtain ⟨Bs, a1, a2, a3, h⟩ := viewK_some h
    split at h
    · obtain ⟨r0, h1, h2⟩ := bnd1_some h
      rw [putAllK_eq] at h2
      exact ⟨_, _, h2, hs _ _ _ _ _ h1 _ _ m dst a1 a2 a3 ⟨aren_agg ⟨aren_v _, aren_v _, aren_v _, trivial⟩, aren_ptr _ rfl, trivial⟩⟩
    · cases h
  · cases h
theorem co_Find1 (N : Nat) : CxOK Try.prog (cx_Find1 N) :=
  cxOK_of2 (es := []) (me := []) (ms := []) T_ok trivial trivial trivial rfl (fun _ _ _ _ => rfl) (fun _ _ _ _ _ _ => rfl) rfl
theorem lo_Find1 (N : Nat) : LoopsOK (cx_Find1 N) Try.f46.ntmps (bodyOf Try.f46) :=
  loopsOK_of (k := 0) (by kernel_rfl) trivial
open Classical in
theorem p_Find1 (N : Nat) (x0 : Int) (x1 : List UInt8) (x2 : List V) (y0 : Int) (r0 : Bool) (h : s_Find1 N x0 x1 x2 y0 = some r0) : ViewRet Try.prog T 46 [.agg [.v (.int .i64 x0) .no, .v (.bytes x1) .no, .v (.sl 40 x2) .no], .ptr 1 0 0] [⟨3, [.v (.int .i64 y0) .no]⟩] [.v (.bool r0) .no] [⟨3, [.v (.int .i64 y0) .no]⟩] := by
  refine view_of (Bs := [⟨3, [.v (.int .i64 y0) .no]⟩]) (Bs' := [⟨3, [.v (.int .i64 y0) .no]⟩]) (cx := cx_Find1 N) (by kernel_rfl) (co_Find1 N) Try.func46 (by kernel_rfl) (by kernel_rfl) (lo_Find1 N) rfl rfl rfl rfl (rf := r_Find1 (fun r0' z'0 => if z'0 = y0 then some r0' else none)) (r := r0) ?_ ?_
  · exact (C_Find1_ok N x0 x1 x2 y0 _).trans ((congrArg (fun K => C_Find1 N x0 x1 x2 y0 K) (funext fun r0' => if_pos rfl)).trans h)
  · intro rs' m' hx
    unfold r_Find1 at hx
    split at hx
    · dsimp only at hx
      split at hx
      · rename_i hk
        subst hk
        cases hx; exact ⟨rfl, rfl, _, rfl⟩
      · cases hx
    · cases hx
noncomputable def e_IndexFuncF {R : Type} (s : List V → Int → Option (Int)) (dst : Nat) (ds : List D) (m : Mem) (K : List D → Mem → Option R) : Option R :=
  match ds with
  | [.v (.sl 40 x0) .no, .clos 46 [.ptr (kv0 + 1) sv0 0]] => viewK [(kv0, sv0)] m fun Bs => (match Bs with
    | [⟨3, [.v (.int .i64 y0) .no]⟩] => bnd1 (s x0 y0) fun r0 => putAllK [(kv0, sv0)] [⟨3, [.v (.int .i64 y0) .no]⟩] m fun m' => K [.v (.int .i64 r0) .no] m'
    | _ => none)
  | _ => none
noncomputable def r_IndexFuncF {α : Type} (K : Int → Int → Option α) (rs : List D) (m : Mem) : Option α :=
  match rs, m with
  | [.v (.int .i64 r0) _], [_, [(0, ⟨3, [.v (.int .i64 z0) .no]⟩)]] => K r0 z0
  | _, _ => none
noncomputable def F_IndexFuncF_2 {R : Type} (N : Nat) (vs0 : List V) (n1 : Int) (n3 : Int) (Lq : Int → Option R) (K0 : Int → Option R) (K1 : Option R) (n2 : Int) : Option R :=
  br (decide (n2 < n1))
  (br (decide (0 ≤ n2) && decide (n2 < (↑vs0.length : Int)))
    (at? vs0 n2.toNat fun x0 =>
      x0.unAgg fun l1 =>
        unCons l1 fun x2 l3 =>
          V.unInt IntKind.i64 x2 fun n4 => unCons l3 fun x5 l6 => x5.unBytes fun l7 => unCons l6 fun x8 l9 => V.unSl 40 x8 fun l10 => unNil l9 (bnd1 (s_Find1 N n4 l7 l10 n3) fun b11 => br b11 (K0 n2) (Lq (IntKind.i64.wrap (n2 + 1)))))
    none)
  K1
noncomputable def S_IndexFuncF_2 {R : Type} (N : Nat) (vs0 : List V) (n1 : Int) (n3 : Int) : Nat → Int → (Int → Option R) → (Option R) → Option R
  | 0, _, _, _ => none
  | t + 1, n2, K0, K1 => F_IndexFuncF_2 N vs0 n1 n3 (fun n2 => S_IndexFuncF_2 N vs0 n1 n3 t n2 K0 K1) K0 K1 n2
noncomputable def l_IndexFuncF_2 {R : Type} (N : Nat) (ds : List D) (m : Mem) (K : Ex → List D → Mem → Option R) : Option R :=
  match ds, m with
  | [(.v (.sl 40 vs0) .no), (.clos 46 [(.ptr 1 0 0)]), (.v (.int .i64 n1) .no), (.v (.int .i64 n2) .no)], [[], [(0, ⟨3, [(.v (.int .i64 n3) .no)]⟩)]] => S_IndexFuncF_2 N vs0 n1 n3 N n2 (fun a0 => K .ret [(.v (.int .i64 a0) .no)] [[], [(0, ⟨3, [(.v (.int .i64 n3) .no)]⟩)]]) (K (.exit 0) [.any] [[], [(0, ⟨3, [(.v (.int .i64 n3) .no)]⟩)]])
  | _, _ => none
noncomputable def C_IndexFuncF {R : Type} (N : Nat) (x0 : List V) (y0 : Int) (K0 : Int → Option R) : Option R :=
  S_IndexFuncF_2 N x0 (↑x0.length : Int) y0 N 0 (fun n0 => K0 n0) (K0 (-1))
noncomputable def s_IndexFuncF (N : Nat) (x0 : List V) (y0 : Int) : Option (Int) :=
  C_IndexFuncF N x0 y0 (fun r0 => some r0)
noncomputable def cx_IndexFuncF (N : Nat) : Cx := { T := T, isPure := tabP [], pureK := fun g ds K => tabK [] g ds K, memK := fun g dst ds m K => tabMK [⟨46, e_Find1 (s_Find1 N)⟩] g dst ds m K, meth := tabM [], keep := fun r => match r with | 2 => [0, 1, 7, 8] | _ => [], keepX := fun r => match r with | 2 => [4] | _ => [], loopT := fun r ds m K => match r with | 2 => l_IndexFuncF_2 N ds m K | _ => none, jumps := 9 }
theorem F_IndexFuncF_2_ok {R : Type} (N : Nat) (vs0 : List V) (n1 : Int) (n3 : Int) (n2 : Int) (L : List D → Mem → Option R) (K : Ex → List D → Mem → Option R) :
    roundK (fun st K => codeK (cx_IndexFuncF N) (loopN Try.f45 0) st K) 19 [0, 1, 7, 8] [4] L [(.v (.sl 40 vs0) .no), (.clos 46 [(.ptr 1 0 0)]), (.v (.int .i64 n1) .no), (.v (.int .i64 n2) .no)] [[], [(0, ⟨3, [(.v (.int .i64 n3) .no)]⟩)]] K = F_IndexFuncF_2 N vs0 n1 n3 (fun n2 => L [(.v (.sl 40 vs0) .no), (.clos 46 [(.ptr 1 0 0)]), (.v (.int .i64 n1) .no), (.v (.int .i64 n2) .no)] [[], [(0, ⟨3, [(.v (.int .i64 n3) .no)]⟩)]]) (fun a0 => K .ret [(.v (.int .i64 a0) .no)] [[], [(0, ⟨3, [(.v (.int .i64 n3) .no)]⟩)]]) (K (.exit 0) [.any] [[], [(0, ⟨3, [(.v (.int .i64 n3) .no)]⟩)]]) n2 := by
  kernel_rfl
theorem S_IndexFuncF_2_ok {R : Type} (N : Nat) (vs0 : List V) (n1 : Int) (n3 : Int) (K : Ex → List D → Mem → Option R) : ∀ (t : Nat) (n2 : Int),
    loopK (fun st K => codeK (cx_IndexFuncF N) (loopN Try.f45 0) st K) 19 [0, 1, 7, 8] [4] t [(.v (.sl 40 vs0) .no), (.clos 46 [(.ptr 1 0 0)]), (.v (.int .i64 n1) .no), (.v (.int .i64 n2) .no)] [[], [(0, ⟨3, [(.v (.int .i64 n3) .no)]⟩)]] K = S_IndexFuncF_2 N vs0 n1 n3 t n2 (fun a0 => K .ret [(.v (.int .i64 a0) .no)] [[], [(0, ⟨3, [(.v (.int .i64 n3) .no)]⟩)]]) (K (.exit 0) [.any] [[], [(0, ⟨3, [(.v (.int .i64 n3) .no)]⟩)]])
  | 0, n2 => rfl
  | t + 1, n2 => (F_IndexFuncF_2_ok N vs0 n1 n3 n2 _ K).trans (congrArg (fun L => F_IndexFuncF_2 N vs0 n1 n3 L (fun a0 => K .ret [(.v (.int .i64 a0) .no)] [[], [(0, ⟨3, [(.v (.int .i64 n3) .no)]⟩)]]) (K (.exit 0) [.any] [[], [(0, ⟨3, [(.v (.int .i64 n3) .no)]⟩)]]) n2) (funext fun n2 => S_IndexFuncF_2_ok N vs0 n1 n3 K t n2))
theorem C_IndexFuncF_ok {R : Type} (N : Nat) (x0 : List V) (y0 : Int) (K : Int → Int → Option R) : bodyK (cx_IndexFuncF N) Try.f45 [.v (.sl 40 x0) .no, .clos 46 [.ptr 1 0 0]] [frOf 0 [⟨3, [.v (.int .i64 y0) .no]⟩]] (r_IndexFuncF K) = C_IndexFuncF N x0 y0 (fun r0 => K r0 y0) := by
  kernel_rfl
theorem go_IndexFuncF : Goes Try.prog 45 := goes_of Try.func45 (by kernel_rfl) (c := bodyOf Try.f45) (by kernel_rfl)
theorem eo_IndexFuncF (s : List V → Int → Option (Int)) (hs : ∀ (x0 : List V) (y0 : Int) (r0 : Int), s x0 y0 = some r0 → ViewRet Try.prog T 45 [.v (.sl 40 x0) .no, .clos 46 [.ptr 1 0 0]] [⟨3, [.v (.int .i64 y0) .no]⟩] [.v (.int .i64 r0) .no] [⟨3, [.v (.int .i64 y0) .no]⟩]) : MEntOK Try.prog T ⟨45, e_IndexFuncF s⟩ := by
  refine ⟨go_IndexFuncF, fun R dst ds m K r h => ?_⟩
  simp only [e_IndexFuncF] at h
  split at h
  · obtain ⟨Bs, a1, a2, a3, h⟩ := viewK_some h
    split at h
    · obtain ⟨r0, h1, h2⟩ := bnd1_some h
      rw [putAllK_eq] at h2
      exact ⟨_, _, h2, hs _ _ _ h1 _ _ m dst a1 a2 a3 ⟨aren_v _, aren_clos ⟨aren_ptr _ rfl, trivial⟩, trivial⟩⟩
    · cases h
  · cases h
theorem co_IndexFuncF (N : Nat) : CxOK Try.prog (cx_IndexFuncF N) :=
  cxOK_of2 (es := []) (me := [⟨46, e_Find1 (s_Find1 N)⟩]) (ms := []) T_ok trivial ⟨eo_Find1 _ (p_Find1 N), trivial⟩ trivial rfl (fun _ _ _ _ => rfl) (fun _ _ _ _ _ _ => rfl) rfl
theorem lk_IndexFuncF_2 (N : Nat) : LoopOK (cx_IndexFuncF N) 19 (loopN Try.f45 0) := by
  refine loopOK_of (rid := 2) (by kernel_rfl) rfl rfl fun R ds m K r h => ?_
  have h : l_IndexFuncF_2 N ds m K = some r := h
  unfold l_IndexFuncF_2 at h
  split at h
  · exact ⟨N, Eq.trans (S_IndexFuncF_2_ok ..) h⟩
  · cases h
theorem lo_IndexFuncF (N : Nat) : LoopsOK (cx_IndexFuncF N) Try.f45.ntmps (bodyOf Try.f45) :=
  loopsOK_of (k := 1) (by kernel_rfl) ⟨trivial, lk_IndexFuncF_2 N⟩
open Classical in
theorem p_IndexFuncF (N : Nat) (x0 : List V) (y0 : Int) (r0 : Int) (h : s_IndexFuncF N x0 y0 = some r0) : ViewRet Try.prog T 45 [.v (.sl 40 x0) .no, .clos 46 [.ptr 1 0 0]] [⟨3, [.v (.int .i64 y0) .no]⟩] [.v (.int .i64 r0) .no] [⟨3, [.v (.int .i64 y0) .no]⟩] := by
  refine view_of (Bs := [⟨3, [.v (.int .i64 y0) .no]⟩]) (Bs' := [⟨3, [.v (.int .i64 y0) .no]⟩]) (cx := cx_IndexFuncF N) (by kernel_rfl) (co_IndexFuncF N) Try.func45 (by kernel_rfl) (by kernel_rfl) (lo_IndexFuncF N) rfl rfl rfl rfl (rf := r_IndexFuncF (fun r0' z'0 => if z'0 = y0 then some r0' else none)) (r := r0) ?_ ?_
  · exact (C_IndexFuncF_ok N x0 y0 _).trans ((congrArg (fun K => C_IndexFuncF N x0 y0 K) (funext fun r0' => if_pos rfl)).trans h)
  · intro rs' m' hx
    unfold r_IndexFuncF at hx
    split at hx
    · dsimp only at hx
      split at hx
      · rename_i hk
        subst hk
        cases hx; exact ⟨rfl, rfl, _, rfl⟩
      · cases hx
    · cases hx
noncomputable def e_clone {R : Type} (s : List UInt8 → Option (List UInt8)) (ds : List D) (K : List D → Option R) : Option R :=
  match ds with
  | [.v (.bytes x0) .no] => bnd1 (s x0) fun r0 => K [.v (.bytes r0) .no]
  | _ => none
theorem go_clone : Goes Try.prog 53 := goes_of Try.func53 (by kernel_rfl) (c := bodyOf Try.f53) (by kernel_rfl)
theorem eo_clone (s : List UInt8 → Option (List UInt8)) (hs : ∀ (x0 : List UInt8) (r0 : List UInt8), s x0 = some r0 → PureRet Try.prog T 53 [.v (.bytes x0) .no] [.v (.bytes r0) .no]) : EntOK Try.prog T ⟨53, e_clone s⟩ := by
  refine ⟨go_clone, fun R ds K r h => ?_, fun R ds K => ?_⟩
  · simp only [e_clone] at h
    split at h
    · obtain ⟨r0, h1, h2⟩ := bnd1_some h
      exact ⟨_, h2, hs _ _ h1⟩
    · cases h
  · simp only [e_clone]
    split
    · rw [bnd1_b]; rfl
    · rfl
noncomputable def e_concat {R : Type} (s : List V → Option (List UInt8)) (ds : List D) (K : List D → Option R) : Option R :=
  match ds with
  | [.v (.sl 24 x0) .no] => bnd1 (s x0) fun r0 => K [.v (.bytes r0) .no]
  | _ => none
theorem go_concat : Goes Try.prog 61 := goes_of Try.func61 (by kernel_rfl) (c := bodyOf Try.f61) (by kernel_rfl)
theorem eo_concat (s : List V → Option (List UInt8)) (hs : ∀ (x0 : List V) (r0 : List UInt8), s x0 = some r0 → PureRet Try.prog T 61 [.v (.sl 24 x0) .no] [.v (.bytes r0) .no]) : EntOK Try.prog T ⟨61, e_concat s⟩ := by
  refine ⟨go_concat, fun R ds K r h => ?_, fun R ds K => ?_⟩
  · simp only [e_concat] at h
    split at h
    · obtain ⟨r0, h1, h2⟩ := bnd1_some h
      exact ⟨_, h2, hs _ _ h1⟩
    · cases h
  · simp only [e_concat]
    split
    · rw [bnd1_b]; rfl
    · rfl
noncomputable def e_encode {R : Type} (s : List V → Option (List UInt8)) (ds : List D) (K : List D → Option R) : Option R :=
  match ds with
  | [.v (.sl 40 x0) .no] => bnd1 (s x0) fun r0 => K [.v (.bytes r0) .no]
  | _ => none
noncomputable def r_encode (rs : List D) (_ : Mem) : Option (List UInt8) :=
  match rs with
  | [.v (.bytes r0) _] => some (r0)
  | _ => none
noncomputable def F_encode_3 {R : Type} (N : Nat) (f : List V → Option (List UInt8)) (vs1 : List V) (n2 : Int) (Lq : List UInt8 → Int → Option R) (K0 : List UInt8 → Option R) (l0 : List UInt8) (n3 : Int) : Option R :=
  br (decide (n3 < n2))
  (br (decide (0 ≤ n3) && decide (n3 < (↑vs1.length : Int)))
    (at? vs1 n3.toNat fun x0 =>
      x0.unAgg fun l1 =>
        unCons l1 fun x2 l3 =>
          V.unInt IntKind.i64 x2 fun n4 =>
            unCons l3 fun x5 l6 =>
              x5.unBytes fun l7 =>
                unCons l6 fun x8 l9 =>
                  V.unSl 40 x8 fun l10 =>
                    unNil l9
                      (bnd1 (s_Constructed N n4) fun b11 =>
                        br b11
                          (bnd1 (f l10) fun l12 =>
                            bnd1 (s_tagBytes N n4) fun l13 => bnd1 (s_lengthBytes N (↑l12.length : Int)) fun l14 => bnd1 (s_concat N [V.bytes l0, V.bytes l13, V.bytes l14, V.bytes l12]) fun l15 => Lq l15 (IntKind.i64.wrap (n3 + 1)))
                          (bnd1 (s_tagBytes N n4) fun l16 => bnd1 (s_lengthBytes N (↑l7.length : Int)) fun l17 => bnd1 (s_concat N [V.bytes l0, V.bytes l16, V.bytes l17, V.bytes l7]) fun l18 => Lq l18 (IntKind.i64.wrap (n3 + 1)))))
    none)
  (K0 l0)
noncomputable def S_encode_3 {R : Type} (N : Nat) (f : List V → Option (List UInt8)) (vs1 : List V) (n2 : Int) : Nat → List UInt8 → Int → (List UInt8 → Option R) → Option R
  | 0, _, _, _ => none
  | t + 1, l0, n3, K0 => F_encode_3 N f vs1 n2 (fun l0 n3 => S_encode_3 N f vs1 n2 t l0 n3 K0) K0 l0 n3
noncomputable def l_encode_3 {R : Type} (N : Nat) (f : List V → Option (List UInt8)) (ds : List D) (m : Mem) (K : Ex → List D → Mem → Option R) : Option R :=
  match ds, m with
  | [(.v (.bytes l0) .no), (.v (.sl 40 vs1) .no), (.v (.int .i64 n2) .no), (.v (.int .i64 n3) .no), .any], [[]] => S_encode_3 N f vs1 n2 N l0 n3 (fun a0 => K (.exit 0) [(.v (.bytes a0) .no)] [[]])
  | _, _ => none
noncomputable def B_encode (N : Nat) (f : List V → Option (List UInt8)) (x0 : List V) : Option (List UInt8) :=
  S_encode_3 N f x0 (↑x0.length : Int) N [] 0 fun l0 => some l0
noncomputable def s_encode (N : Nat) : Nat → List V → Option (List UInt8)
  | 0, _ => none
  | n + 1, x0 => B_encode N (s_encode N n) x0
noncomputable def cx_encode (N : Nat) (f : List V → Option (List UInt8)) : Cx := { T := T, isPure := tabP [⟨42, e_encode f⟩, ⟨14, e_Constructed (s_Constructed N)⟩, ⟨37, e_tagBytes (s_tagBytes N)⟩, ⟨60, e_lengthBytes (s_lengthBytes N)⟩, ⟨61, e_concat (s_concat N)⟩], pureK := fun g ds K => tabK [⟨42, e_encode f⟩, ⟨14, e_Constructed (s_Constructed N)⟩, ⟨37, e_tagBytes (s_tagBytes N)⟩, ⟨60, e_lengthBytes (s_lengthBytes N)⟩, ⟨61, e_concat (s_concat N)⟩] g ds K, memK := fun g dst ds m K => tabMK [] g dst ds m K, meth := tabM [], keep := fun r => match r with | 3 => [3, 7, 8, 9, 200003] | _ => [], keepX := fun r => match r with | 3 => [3] | _ => [], loopT := fun r ds m K => match r with | 3 => l_encode_3 N f ds m K | _ => none, jumps := 9 }
theorem F_encode_3_ok {R : Type} (N : Nat) (f : List V → Option (List UInt8)) (vs1 : List V) (n2 : Int) (l0 : List UInt8) (n3 : Int) (L : List D → Mem → Option R) (K : Ex → List D → Mem → Option R) :
    roundK (fun st K => codeK (cx_encode N f) (loopN Try.f42 0) st K) 33 [3, 7, 8, 9, 200003] [3] L [(.v (.bytes l0) .no), (.v (.sl 40 vs1) .no), (.v (.int .i64 n2) .no), (.v (.int .i64 n3) .no), .any] [[]] K = F_encode_3 N f vs1 n2 (fun l0 n3 => L [(.v (.bytes l0) .no), (.v (.sl 40 vs1) .no), (.v (.int .i64 n2) .no), (.v (.int .i64 n3) .no), .any] [[]]) (fun a0 => K (.exit 0) [(.v (.bytes a0) .no)] [[]]) l0 n3 := by
  kernel_rfl
theorem S_encode_3_ok {R : Type} (N : Nat) (f : List V → Option (List UInt8)) (vs1 : List V) (n2 : Int) (K : Ex → List D → Mem → Option R) : ∀ (t : Nat) (l0 : List UInt8) (n3 : Int),
    loopK (fun st K => codeK (cx_encode N f) (loopN Try.f42 0) st K) 33 [3, 7, 8, 9, 200003] [3] t [(.v (.bytes l0) .no), (.v (.sl 40 vs1) .no), (.v (.int .i64 n2) .no), (.v (.int .i64 n3) .no), .any] [[]] K = S_encode_3 N f vs1 n2 t l0 n3 (fun a0 => K (.exit 0) [(.v (.bytes a0) .no)] [[]])
  | 0, l0, n3 => rfl
  | t + 1, l0, n3 => (F_encode_3_ok N f vs1 n2 l0 n3 _ K).trans (congrArg (fun L => F_encode_3 N f vs1 n2 L (fun a0 => K (.exit 0) [(.v (.bytes a0) .no)] [[]]) l0 n3) (funext fun l0 => funext fun n3 => S_encode_3_ok N f vs1 n2 K t l0 n3))
theorem B_encode_ok (N : Nat) (f : List V → Option (List UInt8)) (x0 : List V) : bodyK (cx_encode N f) Try.f42 [.v (.sl 40 x0) .no] [] r_encode = B_encode N f x0 := by
  kernel_rfl
theorem go_encode : Goes Try.prog 42 := goes_of Try.func42 (by kernel_rfl) (c := bodyOf Try.f42) (by kernel_rfl)
theorem eo_encode (s : List V → Option (List UInt8)) (hs : ∀ (x0 : List V) (r0 : List UInt8), s x0 = some r0 → PureRet Try.prog T 42 [.v (.sl 40 x0) .no] [.v (.bytes r0) .no]) : EntOK Try.prog T ⟨42, e_encode s⟩ := by
  refine ⟨go_encode, fun R ds K r h => ?_, fun R ds K => ?_⟩
  · simp only [e_encode] at h
    split at h
    · obtain ⟨r0, h1, h2⟩ := bnd1_some h
      exact ⟨_, h2, hs _ _ h1⟩
    · cases h
  · simp only [e_encode]
    split
    · rw [bnd1_b]; rfl
    · rfl
theorem co_encode (N : Nat) (f : List V → Option (List UInt8)) (hf : ∀ (x0 : List V) (r0 : List UInt8), f x0 = some r0 → PureRet Try.prog T 42 [.v (.sl 40 x0) .no] [.v (.bytes r0) .no]) : CxOK Try.prog (cx_encode N f) :=
  cxOK_of2 (es := [⟨42, e_encode f⟩, ⟨14, e_Constructed (s_Constructed N)⟩, ⟨37, e_tagBytes (s_tagBytes N)⟩, ⟨60, e_lengthBytes (s_lengthBytes N)⟩, ⟨61, e_concat (s_concat N)⟩]) (me := []) (ms := []) T_ok ⟨eo_encode f hf, eo_Constructed _ (p_Constructed N), eo_tagBytes _ (p_tagBytes N), eo_lengthBytes _ (p_lengthBytes N), eo_concat _ (p_concat N), trivial⟩ trivial trivial rfl (fun _ _ _ _ => rfl) (fun _ _ _ _ _ _ => rfl) rfl
theorem lk_encode_3 (N : Nat) (f : List V → Option (List UInt8)) : LoopOK (cx_encode N f) 33 (loopN Try.f42 0) := by
  refine loopOK_of (rid := 3) (by kernel_rfl) rfl rfl fun R ds m K r h => ?_
  have h : l_encode_3 N f ds m K = some r := h
  unfold l_encode_3 at h
  split at h
  · exact ⟨N, Eq.trans (S_encode_3_ok ..) h⟩
  · cases h
theorem lo_encode (N : Nat) (f : List V → Option (List UInt8)) : LoopsOK (cx_encode N f) Try.f42.ntmps (bodyOf Try.f42) :=
  loopsOK_of (k := 1) (by kernel_rfl) ⟨trivial, lk_encode_3 N f⟩
theorem p_encode (N : Nat) : ∀ (M : Nat) (x0 : List V) (r0 : List UInt8), s_encode N M x0 = some r0 → PureRet Try.prog T 42 [.v (.sl 40 x0) .no] [.v (.bytes r0) .no]
  | 0, _, _, h => by cases h
  | M + 1, x0, r0, h => pure_of (cx := cx_encode N (s_encode N M)) (by kernel_rfl) (co_encode N (s_encode N M) (p_encode N M)) Try.func42 (by kernel_rfl) (by kernel_rfl) (lo_encode N (s_encode N M)) rfl rfl rfl (rf := r_encode) ((B_encode_ok N (s_encode N M) x0).trans h) (fun rs' m h => by
    unfold r_encode at h
    split at h
    · cases h; exact ⟨rfl, rfl⟩
    · cases h)
noncomputable def e_Encode {R : Type} (s : List V → Option (List UInt8 × Int)) (ds : List D) (K : List D → Option R) : Option R :=
  match ds with
  | [.v (.sl 40 x0) .no] => bnd2 (s x0) fun r0 r1 => K [.v (.bytes r0) .no, .v (.int .i64 r1) .no]
  | _ => none
noncomputable def r_Encode (rs : List D) (_ : Mem) : Option (List UInt8 × Int) :=
  match rs with
  | [.v (.bytes r0) _, .v (.int .i64 r1) _] => some (r0, r1)
  | _ => none
noncomputable def s_Encode (N : Nat) (x0 : List V) : Option (List UInt8 × Int) :=
  bnd1 (s_valid N N x0 1) fun b0 => br (!b0) (some ([], 1)) (bnd1 (s_size N N x0) fun n1 => br (decide (4096 < n1)) (some ([], 3)) (bnd1 (s_encode N N x0) fun l2 => some (l2, 0)))
noncomputable def cx_Encode (N : Nat) : Cx := { T := T, isPure := tabP [⟨40, e_valid (s_valid N N)⟩, ⟨41, e_size (s_size N N)⟩, ⟨42, e_encode (s_encode N N)⟩], pureK := fun g ds K => tabK [⟨40, e_valid (s_valid N N)⟩, ⟨41, e_size (s_size N N)⟩, ⟨42, e_encode (s_encode N N)⟩] g ds K, memK := fun g dst ds m K => tabMK [] g dst ds m K, meth := tabM [], keep := fun _ => [], keepX := fun _ => [], loopT := fun _ _ _ _ => none, jumps := 9 }
theorem s_Encode_ok (N : Nat) (x0 : List V) : bodyK (cx_Encode N) Try.f24 [.v (.sl 40 x0) .no] [] r_Encode = s_Encode N x0 := by
  kernel_rfl
theorem go_Encode : Goes Try.prog 24 := goes_of Try.func24 (by kernel_rfl) (c := bodyOf Try.f24) (by kernel_rfl)
theorem eo_Encode (s : List V → Option (List UInt8 × Int)) (hs : ∀ (x0 : List V) (r0 : List UInt8) (r1 : Int), s x0 = some (r0, r1) → PureRet Try.prog T 24 [.v (.sl 40 x0) .no] [.v (.bytes r0) .no, .v (.int .i64 r1) .no]) : EntOK Try.prog T ⟨24, e_Encode s⟩ := by
  refine ⟨go_Encode, fun R ds K r h => ?_, fun R ds K => ?_⟩
  · simp only [e_Encode] at h
    split at h
    · obtain ⟨r0, r1, h1, h2⟩ := bnd2_some h
      exact ⟨_, h2, hs _ _ _ h1⟩
    · cases h
  · simp only [e_Encode]
    split
    · rw [bnd2_b]; rfl
    · rfl
theorem co_Encode (N : Nat) : CxOK Try.prog (cx_Encode N) :=
  cxOK_of2 (es := [⟨40, e_valid (s_valid N N)⟩, ⟨41, e_size (s_size N N)⟩, ⟨42, e_encode (s_encode N N)⟩]) (me := []) (ms := []) T_ok ⟨eo_valid _ (p_valid N N), eo_size _ (p_size N N), eo_encode _ (p_encode N N), trivial⟩ trivial trivial rfl (fun _ _ _ _ => rfl) (fun _ _ _ _ _ _ => rfl) rfl
theorem lo_Encode (N : Nat) : LoopsOK (cx_Encode N) Try.f24.ntmps (bodyOf Try.f24) :=
  loopsOK_of (k := 0) (by kernel_rfl) trivial
theorem p_Encode (N : Nat) (x0 : List V) (r0 : List UInt8) (r1 : Int) (h : s_Encode N x0 = some (r0, r1)) : PureRet Try.prog T 24 [.v (.sl 40 x0) .no] [.v (.bytes r0) .no, .v (.int .i64 r1) .no] :=
  pure_of (cx := cx_Encode N) (by kernel_rfl) (co_Encode N) Try.func24 (by kernel_rfl) (by kernel_rfl) (lo_Encode N) rfl rfl rfl (rf := r_Encode) ((s_Encode_ok N x0).trans h) (fun rs' m h => by
    unfold r_Encode at h
    split at h
    · cases h; exact ⟨rfl, rfl⟩
    · cases h)
noncomputable def e_Size {R : Type} (s : List V → Option (Int)) (ds : List D) (K : List D → Option R) : Option R :=
  match ds with
  | [.v (.sl 40 x0) .no] => bnd1 (s x0) fun r0 => K [.v (.int .i64 r0) .no]
  | _ => none
noncomputable def r_Size (rs : List D) (_ : Mem) : Option (Int) :=
  match rs with
  | [.v (.int .i64 r0) _] => some (r0)
  | _ => none
noncomputable def s_Size (N : Nat) (x0 : List V) : Option (Int) :=
  bnd2 (s_Encode N x0) fun l0 n1 => some (↑l0.length : Int)
noncomputable def cx_Size (N : Nat) : Cx := { T := T, isPure := tabP [⟨24, e_Encode (s_Encode N)⟩], pureK := fun g ds K => tabK [⟨24, e_Encode (s_Encode N)⟩] g ds K, memK := fun g dst ds m K => tabMK [] g dst ds m K, meth := tabM [], keep := fun _ => [], keepX := fun _ => [], loopT := fun _ _ _ _ => none, jumps := 9 }
theorem s_Size_ok (N : Nat) (x0 : List V) : bodyK (cx_Size N) Try.f26 [.v (.sl 40 x0) .no] [] r_Size = s_Size N x0 := by
  kernel_rfl
theorem go_Size : Goes Try.prog 26 := goes_of Try.func26 (by kernel_rfl) (c := bodyOf Try.f26) (by kernel_rfl)
theorem eo_Size (s : List V → Option (Int)) (hs : ∀ (x0 : List V) (r0 : Int), s x0 = some r0 → PureRet Try.prog T 26 [.v (.sl 40 x0) .no] [.v (.int .i64 r0) .no]) : EntOK Try.prog T ⟨26, e_Size s⟩ := by
  refine ⟨go_Size, fun R ds K r h => ?_, fun R ds K => ?_⟩
  · simp only [e_Size] at h
    split at h
    · obtain ⟨r0, h1, h2⟩ := bnd1_some h
      exact ⟨_, h2, hs _ _ h1⟩
    · cases h
  · simp only [e_Size]
    split
    · rw [bnd1_b]; rfl
    · rfl
theorem co_Size (N : Nat) : CxOK Try.prog (cx_Size N) :=
  cxOK_of2 (es := [⟨24, e_Encode (s_Encode N)⟩]) (me := []) (ms := []) T_ok ⟨eo_Encode _ (p_Encode N), trivial⟩ trivial trivial rfl (fun _ _ _ _ => rfl) (fun _ _ _ _ _ _ => rfl) rfl
theorem lo_Size (N : Nat) : LoopsOK (cx_Size N) Try.f26.ntmps (bodyOf Try.f26) :=
  loopsOK_of (k := 0) (by kernel_rfl) trivial
theorem p_Size (N : Nat) (x0 : List V) (r0 : Int) (h : s_Size N x0 = some r0) : PureRet Try.prog T 26 [.v (.sl 40 x0) .no] [.v (.int .i64 r0) .no] :=
  pure_of (cx := cx_Size N) (by kernel_rfl) (co_Size N) Try.func26 (by kernel_rfl) (by kernel_rfl) (lo_Size N) rfl rfl rfl (rf := r_Size) ((s_Size_ok N x0).trans h) (fun rs' m h => by
    unfold r_Size at h
    split at h
    · cases h; exact ⟨rfl, rfl⟩
    · cases h)
noncomputable def e_decode {R : Type} (s : List UInt8 → Int → Option (List V × Int)) (ds : List D) (K : List D → Option R) : Option R :=
  match ds with
  | [.v (.bytes x0) .no, .v (.int .i64 x1) .no] => bnd2 (s x0 x1) fun r0 r1 => K [.v (.sl 40 r0) .no, .v (.int .i64 r1) .no]
  | _ => none
noncomputable def r_decode (rs : List D) (_ : Mem) : Option (List V × Int) :=
  match rs with
  | [.v (.sl 40 r0) _, .v (.int .i64 r1) _] => some (r0, r1)
  | _ => none
noncomputable def F_decode_2 {R : Type} (N : Nat) (f : List UInt8 → Int → Option (List V × Int)) (n1 : Int) (Lq : List UInt8 → List V → Option R) (K0 : List V → Int → List V → Option R) (K1 : List V → Option R) (l0 : List UInt8) (vs2 : List V) : Option R :=
  br (decide (0 < (↑l0.length : Int)))
  (br (decide (8 < n1)) (K0 [] 4 vs2)
    (bnd3 (s_tag N l0) fun n0 l1 n2 =>
      br (!decide (n2 = 0)) (K0 [] n2 vs2)
        (bnd3 (s_length N l1) fun n3 l4 n5 =>
          br (!decide (n5 = 0)) (K0 [] n5 vs2)
            (br (decide ((↑l4.length : Int) < n3)) (K0 [] 5 vs2)
              (bnd1 (s_Constructed N n0) fun b6 =>
                br b6
                  (br (decide (0 ≤ n3) && decide (n3 ≤ (↑l4.length : Int)))
                    (bnd2 (f (List.take n3.toNat l4) (IntKind.i64.wrap (n1 + 1))) fun l7 n8 =>
                      br (!decide (n8 = 0)) (K0 [] n8 vs2)
                        (br (decide ((vs2.length + [V.agg [V.int IntKind.i64 n0, V.bytes [], V.sl 40 l7]].length) * 56 ≤ 140737488355328))
                          (br (decide (0 ≤ n3) && decide (n3 ≤ (↑l4.length : Int))) (Lq (List.drop n3.toNat l4) (vs2 ++ [V.agg [V.int IntKind.i64 n0, V.bytes [], V.sl 40 l7]])) none) none))
                    none)
                  (br (decide (0 ≤ n3) && decide (n3 ≤ (↑l4.length : Int)))
                    (bnd1 (s_clone N (List.take n3.toNat l4)) fun l9 =>
                      br (decide ((vs2.length + [V.agg [V.int IntKind.i64 n0, V.bytes l9, V.sl 40 []]].length) * 56 ≤ 140737488355328))
                        (br (decide (0 ≤ n3) && decide (n3 ≤ (↑l4.length : Int))) (Lq (List.drop n3.toNat l4) (vs2 ++ [V.agg [V.int IntKind.i64 n0, V.bytes l9, V.sl 40 []]])) none) none)
                    none))))))
  (K1 vs2)
noncomputable def S_decode_2 {R : Type} (N : Nat) (f : List UInt8 → Int → Option (List V × Int)) (n1 : Int) : Nat → List UInt8 → List V → (List V → Int → List V → Option R) → (List V → Option R) → Option R
  | 0, _, _, _, _ => none
  | t + 1, l0, vs2, K0, K1 => F_decode_2 N f n1 (fun l0 vs2 => S_decode_2 N f n1 t l0 vs2 K0 K1) K0 K1 l0 vs2
noncomputable def l_decode_2 {R : Type} (N : Nat) (f : List UInt8 → Int → Option (List V × Int)) (ds : List D) (m : Mem) (K : Ex → List D → Mem → Option R) : Option R :=
  match ds, m with
  | [(.v (.bytes l0) .no), (.v (.int .i64 n1) .no), (.v (.sl 40 vs2) (.own (.slot 6) 40))], [[]] => S_decode_2 N f n1 N l0 vs2 (fun a0 a1 a2 => K .ret [(.v (.sl 40 a0) (.own (.slot 4) 40)), (.v (.int .i64 a1) .no), (.v (.sl 40 a2) (.own (.slot 6) 40))] [[]]) (fun a0 => K (.exit 0) [.any, .any, (.v (.sl 40 a0) (.own (.slot 6) 40))] [[]])
  | _, _ => none
noncomputable def B_decode (N : Nat) (f : List UInt8 → Int → Option (List V × Int)) (x0 : List UInt8) (x1 : Int) : Option (List V × Int) :=
  S_decode_2 N f x1 N x0 [] (fun l0 n1 l2 => some (l0, n1)) fun l3 => some (l3, 0)
noncomputable def s_decode (N : Nat) : Nat → List UInt8 → Int → Option (List V × Int)
  | 0, _, _ => none
  | n + 1, x0, x1 => B_decode N (s_decode N n) x0 x1
noncomputable def cx_decode (N : Nat) (f : List UInt8 → Int → Option (List V × Int)) : Cx := { T := T, isPure := tabP [⟨31, e_decode f⟩, ⟨51, e_tag (s_tag N)⟩, ⟨52, e_length (s_length N)⟩, ⟨14, e_Constructed (s_Constructed N)⟩, ⟨53, e_clone (s_clone N)⟩], pureK := fun g ds K => tabK [⟨31, e_decode f⟩, ⟨51, e_tag (s_tag N)⟩, ⟨52, e_length (s_length N)⟩, ⟨14, e_Constructed (s_Constructed N)⟩, ⟨53, e_clone (s_clone N)⟩] g ds K, memK := fun g dst ds m K => tabMK [] g dst ds m K, meth := tabM [], keep := fun r => match r with | 2 => [0, 1, 6] | _ => [], keepX := fun r => match r with | 2 => [4, 5, 6] | _ => [], loopT := fun r ds m K => match r with | 2 => l_decode_2 N f ds m K | _ => none, jumps := 9 }
theorem F_decode_2_ok {R : Type} (N : Nat) (f : List UInt8 → Int → Option (List V × Int)) (n1 : Int) (l0 : List UInt8) (vs2 : List V) (L : List D → Mem → Option R) (K : Ex → List D → Mem → Option R) :
    roundK (fun st K => codeK (cx_decode N f) (loopN Try.f31 0) st K) 69 [0, 1, 6] [4, 5, 6] L [(.v (.bytes l0) .no), (.v (.int .i64 n1) .no), (.v (.sl 40 vs2) (.own (.slot 6) 40))] [[]] K = F_decode_2 N f n1 (fun l0 vs2 => L [(.v (.bytes l0) .no), (.v (.int .i64 n1) .no), (.v (.sl 40 vs2) (.own (.slot 6) 40))] [[]]) (fun a0 a1 a2 => K .ret [(.v (.sl 40 a0) (.own (.slot 4) 40)), (.v (.int .i64 a1) .no), (.v (.sl 40 a2) (.own (.slot 6) 40))] [[]]) (fun a0 => K (.exit 0) [.any, .any, (.v (.sl 40 a0) (.own (.slot 6) 40))] [[]]) l0 vs2 := by
  kernel_rfl
theorem S_decode_2_ok {R : Type} (N : Nat) (f : List UInt8 → Int → Option (List V × Int)) (n1 : Int) (K : Ex → List D → Mem → Option R) : ∀ (t : Nat) (l0 : List UInt8) (vs2 : List V),
    loopK (fun st K => codeK (cx_decode N f) (loopN Try.f31 0) st K) 69 [0, 1, 6] [4, 5, 6] t [(.v (.bytes l0) .no), (.v (.int .i64 n1) .no), (.v (.sl 40 vs2) (.own (.slot 6) 40))] [[]] K = S_decode_2 N f n1 t l0 vs2 (fun a0 a1 a2 => K .ret [(.v (.sl 40 a0) (.own (.slot 4) 40)), (.v (.int .i64 a1) .no), (.v (.sl 40 a2) (.own (.slot 6) 40))] [[]]) (fun a0 => K (.exit 0) [.any, .any, (.v (.sl 40 a0) (.own (.slot 6) 40))] [[]])
  | 0, l0, vs2 => rfl
  | t + 1, l0, vs2 => (F_decode_2_ok N f n1 l0 vs2 _ K).trans (congrArg (fun L => F_decode_2 N f n1 L (fun a0 a1 a2 => K .ret [(.v (.sl 40 a0) (.own (.slot 4) 40)), (.v (.int .i64 a1) .no), (.v (.sl 40 a2) (.own (.slot 6) 40))] [[]]) (fun a0 => K (.exit 0) [.any, .any, (.v (.sl 40 a0) (.own (.slot 6) 40))] [[]]) l0 vs2) (funext fun l0 => funext fun vs2 => S_decode_2_ok N f n1 K t l0 vs2))
theorem B_decode_ok (N : Nat) (f : List UInt8 → Int → Option (List V × Int)) (x0 : List UInt8) (x1 : Int) : bodyK (cx_decode N f) Try.f31 [.v (.bytes x0) .no, .v (.int .i64 x1) .no] [] r_decode = B_decode N f x0 x1 := by
  kernel_rfl
theorem go_decode : Goes Try.prog 31 := goes_of Try.func31 (by kernel_rfl) (c := bodyOf Try.f31) (by kernel_rfl)
theorem eo_decode (s : List UInt8 → Int → Option (List V × Int)) (hs : ∀ (x0 : List UInt8) (x1 : Int) (r0 : List V) (r1 : Int), s x0 x1 = some (r0, r1) → PureRet Try.prog T 31 [.v (.bytes x0) .no, .v (.int .i64 x1) .no] [.v (.sl 40 r0) .no, .v (.int .i64 r1) .no]) : EntOK Try.prog T ⟨31, e_decode s⟩ := by
  refine ⟨go_decode, fun R ds K r h => ?_, fun R ds K => ?_⟩
  · simp only [e_decode] at h
    split at h
    · obtain ⟨r0, r1, h1, h2⟩ := bnd2_some h
      exact ⟨_, h2, hs _ _ _ _ h1⟩
    · cases h
  · simp only [e_decode]
    split
    · rw [bnd2_b]; rfl
    · rfl
theorem co_decode (N : Nat) (f : List UInt8 → Int → Option (List V × Int)) (hf : ∀ (x0 : List UInt8) (x1 : Int) (r0 : List V) (r1 : Int), f x0 x1 = some (r0, r1) → PureRet Try.prog T 31 [.v (.bytes x0) .no, .v (.int .i64 x1) .no] [.v (.sl 40 r0) .no, .v (.int .i64 r1) .no]) : CxOK Try.prog (cx_decode N f) :=
  cxOK_of2 (es := [⟨31, e_decode f⟩, ⟨51, e_tag (s_tag N)⟩, ⟨52, e_length (s_length N)⟩, ⟨14, e_Constructed (s_Constructed N)⟩, ⟨53, e_clone (s_clone N)⟩]) (me := []) (ms := []) T_ok ⟨eo_decode f hf, eo_tag _ (p_tag N), eo_length _ (p_length N), eo_Constructed _ (p_Constructed N), eo_clone _ (p_clone N), trivial⟩ trivial trivial rfl (fun _ _ _ _ => rfl) (fun _ _ _ _ _ _ => rfl) rfl
theorem lk_decode_2 (N : Nat) (f : List UInt8 → Int → Option (List V × Int)) : LoopOK (cx_decode N f) 69 (loopN Try.f31 0) := by
  refine loopOK_of (rid := 2) (by kernel_rfl) rfl rfl fun R ds m K r h => ?_
  have h : l_decode_2 N f ds m K = some r := h
  unfold l_decode_2 at h
  split at h
  · exact ⟨N, Eq.trans (S_decode_2_ok ..) h⟩
  · cases h
theorem lo_decode (N : Nat) (f : List UInt8 → Int → Option (List V × Int)) : LoopsOK (cx_decode N f) Try.f31.ntmps (bodyOf Try.f31) :=
  loopsOK_of (k := 1) (by kernel_rfl) ⟨trivial, lk_decode_2 N f⟩
theorem p_decode (N : Nat) : ∀ (M : Nat) (x0 : List UInt8) (x1 : Int) (r0 : List V) (r1 : Int), s_decode N M x0 x1 = some (r0, r1) → PureRet Try.prog T 31 [.v (.bytes x0) .no, .v (.int .i64 x1) .no] [.v (.sl 40 r0) .no, .v (.int .i64 r1) .no]
  | 0, _, _, _, _, h => by cases h
  | M + 1, x0, x1, r0, r1, h => pure_of (cx := cx_decode N (s_decode N M)) (by kernel_rfl) (co_decode N (s_decode N M) (p_decode N M)) Try.func31 (by kernel_rfl) (by kernel_rfl) (lo_decode N (s_decode N M)) rfl rfl rfl (rf := r_decode) ((B_decode_ok N (s_decode N M) x0 x1).trans h) (fun rs' m h => by
    unfold r_decode at h
    split at h
    · cases h; exact ⟨rfl, rfl⟩
    · cases h)
noncomputable def e_Decode {R : Type} (s : List UInt8 → Option (List V × Int)) (ds : List D) (K : List D → Option R) : Option R :=
  match ds with
  | [.v (.bytes x0) .no] => bnd2 (s x0) fun r0 r1 => K [.v (.sl 40 r0) .no, .v (.int .i64 r1) .no]
  | _ => none
noncomputable def r_Decode (rs : List D) (_ : Mem) : Option (List V × Int) :=
  match rs with
  | [.v (.sl 40 r0) _, .v (.int .i64 r1) _] => some (r0, r1)
  | _ => none
noncomputable def s_Decode (N : Nat) (x0 : List UInt8) : Option (List V × Int) :=
  br (decide (4096 < (↑x0.length : Int))) (some ([], 3)) (bnd2 (s_decode N N x0 1) fun l0 n1 => some (l0, n1))
noncomputable def cx_Decode (N : Nat) : Cx := { T := T, isPure := tabP [⟨31, e_decode (s_decode N N)⟩], pureK := fun g ds K => tabK [⟨31, e_decode (s_decode N N)⟩] g ds K, memK := fun g dst ds m K => tabMK [] g dst ds m K, meth := tabM [], keep := fun _ => [], keepX := fun _ => [], loopT := fun _ _ _ _ => none, jumps := 9 }
theorem s_Decode_ok (N : Nat) (x0 : List UInt8) : bodyK (cx_Decode N) Try.f17 [.v (.bytes x0) .no] [] r_Decode = s_Decode N x0 := by
  kernel_rfl
theorem go_Decode : Goes Try.prog 17 := goes_of Try.func17 (by kernel_rfl) (c := bodyOf Try.f17) (by kernel_rfl)
theorem eo_Decode (s : List UInt8 → Option (List V × Int)) (hs : ∀ (x0 : List UInt8) (r0 : List V) (r1 : Int), s x0 = some (r0, r1) → PureRet Try.prog T 17 [.v (.bytes x0) .no] [.v (.sl 40 r0) .no, .v (.int .i64 r1) .no]) : EntOK Try.prog T ⟨17, e_Decode s⟩ := by
  refine ⟨go_Decode, fun R ds K r h => ?_, fun R ds K => ?_⟩
  · simp only [e_Decode] at h
    split at h
    · obtain ⟨r0, r1, h1, h2⟩ := bnd2_some h
      exact ⟨_, h2, hs _ _ _ h1⟩
    · cases h
  · simp only [e_Decode]
    split
    · rw [bnd2_b]; rfl
    · rfl
theorem co_Decode (N : Nat) : CxOK Try.prog (cx_Decode N) :=
  cxOK_of2 (es := [⟨31, e_decode (s_decode N N)⟩]) (me := []) (ms := []) T_ok ⟨eo_decode _ (p_decode N N), trivial⟩ trivial trivial rfl (fun _ _ _ _ => rfl) (fun _ _ _ _ _ _ => rfl) rfl
theorem lo_Decode (N : Nat) : LoopsOK (cx_Decode N) Try.f17.ntmps (bodyOf Try.f17) :=
  loopsOK_of (k := 0) (by kernel_rfl) trivial
theorem p_Decode (N : Nat) (x0 : List UInt8) (r0 : List V) (r1 : Int) (h : s_Decode N x0 = some (r0, r1)) : PureRet Try.prog T 17 [.v (.bytes x0) .no] [.v (.sl 40 r0) .no, .v (.int .i64 r1) .no] :=
  pure_of (cx := cx_Decode N) (by kernel_rfl) (co_Decode N) Try.func17 (by kernel_rfl) (by kernel_rfl) (lo_Decode N) rfl rfl rfl (rf := r_Decode) ((s_Decode_ok N x0).trans h) (fun rs' m h => by
    unfold r_Decode at h
    split at h
    · cases h; exact ⟨rfl, rfl⟩
    · cases h)
noncomputable def e_copied {R : Type} (s : Int → List UInt8 → List V → Option (Int × List UInt8 × List V)) (ds : List D) (K : List D → Option R) : Option R :=
  match ds with
  | [.agg [.v (.int .i64 x0) .no, .v (.bytes x1) .no, .v (.sl 40 x2) .no]] => bnd3 (s x0 x1 x2) fun r0 r1 r2 => K [.agg [.v (.int .i64 r0) .no, .v (.bytes r1) .no, .v (.sl 40 r2) .no]]
  | _ => none
noncomputable def r_copied (rs : List D) (_ : Mem) : Option (Int × List UInt8 × List V) :=
  match rs with
  | [.agg [.v (.int .i64 r0) _, .v (.bytes r1) _, .v (.sl 40 r2) _]] => some (r0, r1, r2)
  | _ => none
noncomputable def F_copied_3 {R : Type} (N : Nat) (f : Int → List UInt8 → List V → Option (Int × List UInt8 × List V)) (vs0 : List V) (n1 : Int) (n3 : Int) (l4 : List UInt8) (vs5 : List V) (n6 : Int) (l7 : List UInt8) (vs8 : List V) (n9 : Int) (l10 : List UInt8) (Lq : Int → List V → Option R) (K0 : List V → Option R) (n2 : Int) (vs11 : List V) : Option R :=
  br (decide (n2 < n1))
  (br (decide (0 ≤ n2) && decide (n2 < (↑vs0.length : Int)))
    (at? vs0 n2.toNat fun x0 =>
      x0.unAgg fun l1 =>
        unCons l1 fun x2 l3 =>
          V.unInt IntKind.i64 x2 fun n4 =>
            unCons l3 fun x5 l6 =>
              x5.unBytes fun l7 =>
                unCons l6 fun x8 l9 =>
                  V.unSl 40 x8 fun l10 =>
                    unNil l9
                      (bnd3 (f n4 l7 l10) fun n11 l12 l13 =>
                        br (decide ((vs11.length + [V.agg [V.int IntKind.i64 n11, V.bytes l12, V.sl 40 l13]].length) * 56 ≤ 140737488355328))
                          (Lq (IntKind.i64.wrap (n2 + 1)) (vs11 ++ [V.agg [V.int IntKind.i64 n11, V.bytes l12, V.sl 40 l13]])) none))
    none)
  (K0 vs11)
noncomputable def S_copied_3 {R : Type} (N : Nat) (f : Int → List UInt8 → List V → Option (Int × List UInt8 × List V)) (vs0 : List V) (n1 : Int) (n3 : Int) (l4 : List UInt8) (vs5 : List V) (n6 : Int) (l7 : List UInt8) (vs8 : List V) (n9 : Int) (l10 : List UInt8) : Nat → Int → List V → (List V → Option R) → Option R
  | 0, _, _, _ => none
  | t + 1, n2, vs11, K0 => F_copied_3 N f vs0 n1 n3 l4 vs5 n6 l7 vs8 n9 l10 (fun n2 vs11 => S_copied_3 N f vs0 n1 n3 l4 vs5 n6 l7 vs8 n9 l10 t n2 vs11 K0) K0 n2 vs11
noncomputable def l_copied_3 {R : Type} (N : Nat) (f : Int → List UInt8 → List V → Option (Int × List UInt8 × List V)) (ds : List D) (m : Mem) (K : Ex → List D → Mem → Option R) : Option R :=
  match ds, m with
  | [(.ptr 0 1 0), (.ptr 0 2 0), (.ptr 0 3 0), (.v (.sl 40 vs0) .no), (.v (.int .i64 n1) .no), (.v (.int .i64 n2) .no)], [[(1, ⟨40, [(.v (.int .i64 n3) .no), (.v (.bytes l4) .no), (.v (.sl 40 vs5) .no)]⟩), (2, ⟨40, [(.v (.int .i64 n6) .no), (.v (.bytes l7) (.own (.slot 0) 5)), (.v (.sl 40 vs8) (.own (.slot 0) 40))]⟩), (3, ⟨40, [(.v (.int .i64 n9) .no), (.v (.bytes l10) .no), (.v (.sl 40 vs11) (.own (.slot 0) 40))]⟩)]] => S_copied_3 N f vs0 n1 n3 l4 vs5 n6 l7 vs8 n9 l10 N n2 vs11 (fun a8 => K (.exit 0) [(.ptr 0 1 0), (.ptr 0 2 0), (.ptr 0 3 0)] [[(1, ⟨40, [(.v (.int .i64 n3) .no), (.v (.bytes l4) .no), (.v (.sl 40 vs5) .no)]⟩), (2, ⟨40, [(.v (.int .i64 n6) .no), (.v (.bytes l7) (.own (.slot 0) 5)), (.v (.sl 40 vs8) (.own (.slot 0) 40))]⟩), (3, ⟨40, [(.v (.int .i64 n9) .no), (.v (.bytes l10) .no), (.v (.sl 40 a8) (.own (.slot 0) 40))]⟩)]])
  | _, _ => none
noncomputable def B_copied (N : Nat) (f : Int → List UInt8 → List V → Option (Int × List UInt8 × List V)) (x0 : Int) (x1 : List UInt8) (x2 : List V) : Option (Int × List UInt8 × List V) :=
  bnd1 (s_clone N x1) fun l0 => S_copied_3 N f x2 (↑x2.length : Int) x0 x1 x2 0 [] [] x0 l0 N 0 [] fun l1 => some (x0, l0, l1)
noncomputable def s_copied (N : Nat) : Nat → Int → List UInt8 → List V → Option (Int × List UInt8 × List V)
  | 0, _, _, _ => none
  | n + 1, x0, x1, x2 => B_copied N (s_copied N n) x0 x1 x2
noncomputable def cx_copied (N : Nat) (f : Int → List UInt8 → List V → Option (Int × List UInt8 × List V)) : Cx := { T := T, isPure := tabP [⟨47, e_copied f⟩, ⟨53, e_clone (s_clone N)⟩], pureK := fun g ds K => tabK [⟨47, e_copied f⟩, ⟨53, e_clone (s_clone N)⟩] g ds K, memK := fun g dst ds m K => tabMK [] g dst ds m K, meth := tabM [], keep := fun r => match r with | 3 => [1, 2, 3, 13, 14, 15] | _ => [], keepX := fun r => match r with | 3 => [1, 2, 3] | _ => [], loopT := fun r ds m K => match r with | 3 => l_copied_3 N f ds m K | _ => none, jumps := 9 }
theorem F_copied_3_ok {R : Type} (N : Nat) (f : Int → List UInt8 → List V → Option (Int × List UInt8 × List V)) (vs0 : List V) (n1 : Int) (n3 : Int) (l4 : List UInt8) (vs5 : List V) (n6 : Int) (l7 : List UInt8) (vs8 : List V) (n9 : Int) (l10 : List UInt8) (n2 : Int) (vs11 : List V) (L : List D → Mem → Option R) (K : Ex → List D → Mem → Option R) :
    roundK (fun st K => codeK (cx_copied N f) (loopN Try.f47 0) st K) 28 [1, 2, 3, 13, 14, 15] [1, 2, 3] L [(.ptr 0 1 0), (.ptr 0 2 0), (.ptr 0 3 0), (.v (.sl 40 vs0) .no), (.v (.int .i64 n1) .no), (.v (.int .i64 n2) .no)] [[(1, ⟨40, [(.v (.int .i64 n3) .no), (.v (.bytes l4) .no), (.v (.sl 40 vs5) .no)]⟩), (2, ⟨40, [(.v (.int .i64 n6) .no), (.v (.bytes l7) (.own (.slot 0) 5)), (.v (.sl 40 vs8) (.own (.slot 0) 40))]⟩), (3, ⟨40, [(.v (.int .i64 n9) .no), (.v (.bytes l10) .no), (.v (.sl 40 vs11) (.own (.slot 0) 40))]⟩)]] K = F_copied_3 N f vs0 n1 n3 l4 vs5 n6 l7 vs8 n9 l10 (fun n2 vs11 => L [(.ptr 0 1 0), (.ptr 0 2 0), (.ptr 0 3 0), (.v (.sl 40 vs0) .no), (.v (.int .i64 n1) .no), (.v (.int .i64 n2) .no)] [[(1, ⟨40, [(.v (.int .i64 n3) .no), (.v (.bytes l4) .no), (.v (.sl 40 vs5) .no)]⟩), (2, ⟨40, [(.v (.int .i64 n6) .no), (.v (.bytes l7) (.own (.slot 0) 5)), (.v (.sl 40 vs8) (.own (.slot 0) 40))]⟩), (3, ⟨40, [(.v (.int .i64 n9) .no), (.v (.bytes l10) .no), (.v (.sl 40 vs11) (.own (.slot 0) 40))]⟩)]]) (fun a8 => K (.exit 0) [(.ptr 0 1 0), (.ptr 0 2 0), (.ptr 0 3 0)] [[(1, ⟨40, [(.v (.int .i64 n3) .no), (.v (.bytes l4) .no), (.v (.sl 40 vs5) .no)]⟩), (2, ⟨40, [(.v (.int .i64 n6) .no), (.v (.bytes l7) (.own (.slot 0) 5)), (.v (.sl 40 vs8) (.own (.slot 0) 40))]⟩), (3, ⟨40, [(.v (.int .i64 n9) .no), (.v (.bytes l10) .no), (.v (.sl 40 a8) (.own (.slot 0) 40))]⟩)]]) n2 vs11 := by
  kernel_rfl
theorem S_copied_3_ok {R : Type} (N : Nat) (f : Int → List UInt8 → List V → Option (Int × List UInt8 × List V)) (vs0 : List V) (n1 : Int) (n3 : Int) (l4 : List UInt8) (vs5 : List V) (n6 : Int) (l7 : List UInt8) (vs8 : List V) (n9 : Int) (l10 : List UInt8) (K : Ex → List D → Mem → Option R) : ∀ (t : Nat) (n2 : Int) (vs11 : List V),
    loopK (fun st K => codeK (cx_copied N f) (loopN Try.f47 0) st K) 28 [1, 2, 3, 13, 14, 15] [1, 2, 3] t [(.ptr 0 1 0), (.ptr 0 2 0), (.ptr 0 3 0), (.v (.sl 40 vs0) .no), (.v (.int .i64 n1) .no), (.v (.int .i64 n2) .no)] [[(1, ⟨40, [(.v (.int .i64 n3) .no), (.v (.bytes l4) .no), (.v (.sl 40 vs5) .no)]⟩), (2, ⟨40, [(.v (.int .i64 n6) .no), (.v (.bytes l7) (.own (.slot 0) 5)), (.v (.sl 40 vs8) (.own (.slot 0) 40))]⟩), (3, ⟨40, [(.v (.int .i64 n9) .no), (.v (.bytes l10) .no), (.v (.sl 40 vs11) (.own (.slot 0) 40))]⟩)]] K = S_copied_3 N f vs0 n1 n3 l4 vs5 n6 l7 vs8 n9 l10 t n2 vs11 (fun a8 => K (.exit 0) [(.ptr 0 1 0), (.ptr 0 2 0), (.ptr 0 3 0)] [[(1, ⟨40, [(.v (.int .i64 n3) .no), (.v (.bytes l4) .no), (.v (.sl 40 vs5) .no)]⟩), (2, ⟨40, [(.v (.int .i64 n6) .no), (.v (.bytes l7) (.own (.slot 0) 5)), (.v (.sl 40 vs8) (.own (.slot 0) 40))]⟩), (3, ⟨40, [(.v (.int .i64 n9) .no), (.v (.bytes l10) .no), (.v (.sl 40 a8) (.own (.slot 0) 40))]⟩)]])
  | 0, n2, vs11 => rfl
  | t + 1, n2, vs11 => (F_copied_3_ok N f vs0 n1 n3 l4 vs5 n6 l7 vs8 n9 l10 n2 vs11 _ K).trans (congrArg (fun L => F_copied_3 N f vs0 n1 n3 l4 vs5 n6 l7 vs8 n9 l10 L (fun a8 => K (.exit 0) [(.ptr 0 1 0), (.ptr 0 2 0), (.ptr 0 3 0)] [[(1, ⟨40, [(.v (.int .i64 n3) .no), (.v (.bytes l4) .no), (.v (.sl 40 vs5) .no)]⟩), (2, ⟨40, [(.v (.int .i64 n6) .no), (.v (.bytes l7) (.own (.slot 0) 5)), (.v (.sl 40 vs8) (.own (.slot 0) 40))]⟩), (3, ⟨40, [(.v (.int .i64 n9) .no), (.v (.bytes l10) .no), (.v (.sl 40 a8) (.own (.slot 0) 40))]⟩)]]) n2 vs11) (funext fun n2 => funext fun vs11 => S_copied_3_ok N f vs0 n1 n3 l4 vs5 n6 l7 vs8 n9 l10 K t n2 vs11))
theorem B_copied_ok (N : Nat) (f : Int → List UInt8 → List V → Option (Int × List UInt8 × List V)) (x0 : Int) (x1 : List UInt8) (x2 : List V) : bodyK (cx_copied N f) Try.f47 [.agg [.v (.int .i64 x0) .no, .v (.bytes x1) .no, .v (.sl 40 x2) .no]] [] r_copied = B_copied N f x0 x1 x2 := by
  kernel_rfl
theorem go_copied : Goes Try.prog 47 := goes_of Try.func47 (by kernel_rfl) (c := bodyOf Try.f47) (by kernel_rfl)
theorem eo_copied (s : Int → List UInt8 → List V → Option (Int × List UInt8 × List V)) (hs : ∀ (x0 : Int) (x1 : List UInt8) (x2 : List V) (r0 : Int) (r1 : List UInt8) (r2 : List V), s x0 x1 x2 = some (r0, r1, r2) → PureRet Try.prog T 47 [.agg [.v (.int .i64 x0) .no, .v (.bytes x1) .no, .v (.sl 40 x2) .no]] [.agg [.v (.int .i64 r0) .no, .v (.bytes r1) .no, .v (.sl 40 r2) .no]]) : EntOK Try.prog T ⟨47, e_copied s⟩ := by
  refine ⟨go_copied, fun R ds K r h => ?_, fun R ds K => ?_⟩
  · simp only [e_copied] at h
    split at h
    · obtain ⟨r0, r1, r2, h1, h2⟩ := bnd3_some h
      exact ⟨_, h2, hs _ _ _ _ _ _ h1⟩
    · cases h
  · simp only [e_copied]
    split
    · rw [bnd3_b]; rfl
    · rfl
theorem co_copied (N : Nat) (f : Int → List UInt8 → List V → Option (Int × List UInt8 × List V)) (hf : ∀ (x0 : Int) (x1 : List UInt8) (x2 : List V) (r0 : Int) (r1 : List UInt8) (r2 : List V), f x0 x1 x2 = some (r0, r1, r2) → PureRet Try.prog T 47 [.agg [.v (.int .i64 x0) .no, .v (.bytes x1) .no, .v (.sl 40 x2) .no]] [.agg [.v (.int .i64 r0) .no, .v (.bytes r1) .no, .v (.sl 40 r2) .no]]) : CxOK Try.prog (cx_copied N f) :=
  cxOK_of2 (es := [⟨47, e_copied f⟩, ⟨53, e_clone (s_clone N)⟩]) (me := []) (ms := []) T_ok ⟨eo_copied f hf, eo_clone _ (p_clone N), trivial⟩ trivial trivial rfl (fun _ _ _ _ => rfl) (fun _ _ _ _ _ _ => rfl) rfl
theorem lk_copied_3 (N : Nat) (f : Int → List UInt8 → List V → Option (Int × List UInt8 × List V)) : LoopOK (cx_copied N f) 28 (loopN Try.f47 0) := by
  refine loopOK_of (rid := 3) (by kernel_rfl) rfl rfl fun R ds m K r h => ?_
  have h : l_copied_3 N f ds m K = some r := h
  unfold l_copied_3 at h
  split at h
  · exact ⟨N, Eq.trans (S_copied_3_ok ..) h⟩
  · cases h
theorem lo_copied (N : Nat) (f : Int → List UInt8 → List V → Option (Int × List UInt8 × List V)) : LoopsOK (cx_copied N f) Try.f47.ntmps (bodyOf Try.f47) :=
  loopsOK_of (k := 1) (by kernel_rfl) ⟨trivial, lk_copied_3 N f⟩
theorem p_copied (N : Nat) : ∀ (M : Nat) (x0 : Int) (x1 : List UInt8) (x2 : List V) (r0 : Int) (r1 : List UInt8) (r2 : List V), s_copied N M x0 x1 x2 = some (r0, r1, r2) → PureRet Try.prog T 47 [.agg [.v (.int .i64 x0) .no, .v (.bytes x1) .no, .v (.sl 40 x2) .no]] [.agg [.v (.int .i64 r0) .no, .v (.bytes r1) .no, .v (.sl 40 r2) .no]]
  | 0, _, _, _, _, _, _, h => by cases h
  | M + 1, x0, x1, x2, r0, r1, r2, h => pure_of (cx := cx_copied N (s_copied N M)) (by kernel_rfl) (co_copied N (s_copied N M) (p_copied N M)) Try.func47 (by kernel_rfl) (by kernel_rfl) (lo_copied N (s_copied N M)) rfl rfl rfl (rf := r_copied) ((B_copied_ok N (s_copied N M) x0 x1 x2).trans h) (fun rs' m h => by
    unfold r_copied at h
    split at h
    · cases h; exact ⟨rfl, rfl⟩
    · cases h)
noncomputable def e_Find {R : Type} (s : List V → List V → Option (Int × List UInt8 × List V × Bool)) (ds : List D) (K : List D → Option R) : Option R :=
  match ds with
  | [.v (.sl 40 x0) .no, .v (.sl 3 x1) .no] => bnd4 (s x0 x1) fun r0 r1 r2 r3 => K [.agg [.v (.int .i64 r0) .no, .v (.bytes r1) .no, .v (.sl 40 r2) .no], .v (.bool r3) .no]
  | _ => none
noncomputable def r_Find (rs : List D) (_ : Mem) : Option (Int × List UInt8 × List V × Bool) :=
  match rs with
  | [.agg [.v (.int .i64 r0) _, .v (.bytes r1) _, .v (.sl 40 r2) _], .v (.bool r3) _] => some (r0, r1, r2, r3)
  | _ => none
noncomputable def F_Find_3 {R : Type} (N : Nat) (vs1 : List V) (vs2 : List V) (n3 : Int) (n5 : Int) (l6 : List UInt8) (vs7 : List V) (Lq : List V → Int → Int → List UInt8 → List V → Option R) (K0 : Bool → Int → List UInt8 → List V → Int → List UInt8 → List V → Option R) (K1 : Int → List UInt8 → List V → Option R) (vs0 : List V) (n4 : Int) (n8 : Int) (l9 : List UInt8) (vs10 : List V) : Option R :=
  br (decide (n4 < n3))
  (br (decide (0 ≤ n4) && decide (n4 < (↑vs2.length : Int)))
    (at? vs2 n4.toNat fun x0 =>
      V.unInt IntKind.i64 x0 fun n1 =>
        bnd1 (s_IndexFuncF N vs0 n1) fun n2 =>
          br (decide (n2 < 0)) (K0 false 0 [] [] n8 l9 vs10)
            (br (decide (0 ≤ n2) && decide (n2 < (↑vs0.length : Int)))
              (at? vs0 n2.toNat fun x3 =>
                x3.unAgg fun l4 =>
                  unCons l4 fun x5 l6 => V.unInt IntKind.i64 x5 fun n7 => unCons l6 fun x8 l9 => x8.unBytes fun l10 => unCons l9 fun x11 l12 => V.unSl 40 x11 fun l13 => unNil l12 (Lq l13 (IntKind.i64.wrap (n4 + 1)) n7 l10 l13))
              none))
    none)
  (K1 n8 l9 vs10)
noncomputable def S_Find_3 {R : Type} (N : Nat) (vs1 : List V) (vs2 : List V) (n3 : Int) (n5 : Int) (l6 : List UInt8) (vs7 : List V) : Nat → List V → Int → Int → List UInt8 → List V → (Bool → Int → List UInt8 → List V → Int → List UInt8 → List V → Option R) → (Int → List UInt8 → List V → Option R) → Option R
  | 0, _, _, _, _, _, _, _ => none
  | t + 1, vs0, n4, n8, l9, vs10, K0, K1 => F_Find_3 N vs1 vs2 n3 n5 l6 vs7 (fun vs0 n4 n8 l9 vs10 => S_Find_3 N vs1 vs2 n3 n5 l6 vs7 t vs0 n4 n8 l9 vs10 K0 K1) K0 K1 vs0 n4 n8 l9 vs10
noncomputable def l_Find_3 {R : Type} (N : Nat) (ds : List D) (m : Mem) (K : Ex → List D → Mem → Option R) : Option R :=
  match ds, m with
  | [(.v (.sl 40 vs0) .no), (.v (.sl 3 vs1) .no), (.ptr 0 4 0), (.ptr 0 6 0), (.v (.sl 3 vs2) .no), (.v (.int .i64 n3) .no), (.v (.int .i64 n4) .no), .any], [[(4, ⟨40, [(.v (.int .i64 n5) .no), (.v (.bytes l6) (.own (.slot 0) 5)), (.v (.sl 40 vs7) (.own (.slot 0) 40))]⟩), (6, ⟨40, [(.v (.int .i64 n8) .no), (.v (.bytes l9) .no), (.v (.sl 40 vs10) .no)]⟩)]] => S_Find_3 N vs1 vs2 n3 n5 l6 vs7 N vs0 n4 n8 l9 vs10 (fun a1 a2 a3 a4 a5 a6 a7 => K .ret [(.v (.sl 3 vs1) .no), (.ptr 0 4 0), (.v (.bool a1) .no), (.ptr 0 6 0)] [[(4, ⟨40, [(.v (.int .i64 a2) .no), (.v (.bytes a3) (.own (.slot 0) 5)), (.v (.sl 40 a4) (.own (.slot 0) 40))]⟩), (6, ⟨40, [(.v (.int .i64 a5) .no), (.v (.bytes a6) .no), (.v (.sl 40 a7) .no)]⟩)]]) (fun a4 a5 a6 => K (.exit 0) [(.v (.sl 3 vs1) .no), (.ptr 0 4 0), .any, (.ptr 0 6 0)] [[(4, ⟨40, [(.v (.int .i64 n5) .no), (.v (.bytes l6) (.own (.slot 0) 5)), (.v (.sl 40 vs7) (.own (.slot 0) 40))]⟩), (6, ⟨40, [(.v (.int .i64 a4) .no), (.v (.bytes a5) .no), (.v (.sl 40 a6) .no)]⟩)]])
  | _, _ => none
noncomputable def s_Find (N : Nat) (x0 : List V) (x1 : List V) : Option (Int × List UInt8 × List V × Bool) :=
  S_Find_3 N x1 x1 (↑x1.length : Int) 0 [] [] N x0 0 0 [] [] (fun b0 n1 l2 l3 n4 l5 l6 => some (n1, l2, l3, b0)) fun n7 l8 l9 => bnd3 (s_copied N N n7 l8 l9) fun n10 l11 l12 => some (n10, l11, l12, decide (0 < (↑x1.length : Int)))
noncomputable def cx_Find (N : Nat) : Cx := { T := T, isPure := tabP [⟨47, e_copied (s_copied N N)⟩], pureK := fun g ds K => tabK [⟨47, e_copied (s_copied N N)⟩] g ds K, memK := fun g dst ds m K => tabMK [⟨45, e_IndexFuncF (s_IndexFuncF N)⟩, ⟨46, e_Find1 (s_Find1 N)⟩] g dst ds m K, meth := tabM [], keep := fun r => match r with | 3 => [0, 1, 4, 6, 10, 11, 12, 100006] | _ => [], keepX := fun r => match r with | 3 => [1, 4, 5, 6] | _ => [], loopT := fun r ds m K => match r with | 3 => l_Find_3 N ds m K | _ => none, jumps := 9 }
theorem F_Find_3_ok {R : Type} (N : Nat) (vs1 : List V) (vs2 : List V) (n3 : Int) (n5 : Int) (l6 : List UInt8) (vs7 : List V) (vs0 : List V) (n4 : Int) (n8 : Int) (l9 : List UInt8) (vs10 : List V) (L : List D → Mem → Option R) (K : Ex → List D → Mem → Option R) :
    roundK (fun st K => codeK (cx_Find N) (loopN Try.f27 0) st K) 34 [0, 1, 4, 6, 10, 11, 12, 100006] [1, 4, 5, 6] L [(.v (.sl 40 vs0) .no), (.v (.sl 3 vs1) .no), (.ptr 0 4 0), (.ptr 0 6 0), (.v (.sl 3 vs2) .no), (.v (.int .i64 n3) .no), (.v (.int .i64 n4) .no), .any] [[(4, ⟨40, [(.v (.int .i64 n5) .no), (.v (.bytes l6) (.own (.slot 0) 5)), (.v (.sl 40 vs7) (.own (.slot 0) 40))]⟩), (6, ⟨40, [(.v (.int .i64 n8) .no), (.v (.bytes l9) .no), (.v (.sl 40 vs10) .no)]⟩)]] K = F_Find_3 N vs1 vs2 n3 n5 l6 vs7 (fun vs0 n4 n8 l9 vs10 => L [(.v (.sl 40 vs0) .no), (.v (.sl 3 vs1) .no), (.ptr 0 4 0), (.ptr 0 6 0), (.v (.sl 3 vs2) .no), (.v (.int .i64 n3) .no), (.v (.int .i64 n4) .no), .any] [[(4, ⟨40, [(.v (.int .i64 n5) .no), (.v (.bytes l6) (.own (.slot 0) 5)), (.v (.sl 40 vs7) (.own (.slot 0) 40))]⟩), (6, ⟨40, [(.v (.int .i64 n8) .no), (.v (.bytes l9) .no), (.v (.sl 40 vs10) .no)]⟩)]]) (fun a1 a2 a3 a4 a5 a6 a7 => K .ret [(.v (.sl 3 vs1) .no), (.ptr 0 4 0), (.v (.bool a1) .no), (.ptr 0 6 0)] [[(4, ⟨40, [(.v (.int .i64 a2) .no), (.v (.bytes a3) (.own (.slot 0) 5)), (.v (.sl 40 a4) (.own (.slot 0) 40))]⟩), (6, ⟨40, [(.v (.int .i64 a5) .no), (.v (.bytes a6) .no), (.v (.sl 40 a7) .no)]⟩)]]) (fun a4 a5 a6 => K (.exit 0) [(.v (.sl 3 vs1) .no), (.ptr 0 4 0), .any, (.ptr 0 6 0)] [[(4, ⟨40, [(.v (.int .i64 n5) .no), (.v (.bytes l6) (.own (.slot 0) 5)), (.v (.sl 40 vs7) (.own (.slot 0) 40))]⟩), (6, ⟨40, [(.v (.int .i64 a4) .no), (.v (.bytes a5) .no), (.v (.sl 40 a6) .no)]⟩)]]) vs0 n4 n8 l9 vs10 := by
  kernel_rfl
theorem S_Find_3_ok {R : Type} (N : Nat) (vs1 : List V) (vs2 : List V) (n3 : Int) (n5 : Int) (l6 : List UInt8) (vs7 : List V) (K : Ex → List D → Mem → Option R) : ∀ (t : Nat) (vs0 : List V) (n4 : Int) (n8 : Int) (l9 : List UInt8) (vs10 : List V),
    loopK (fun st K => codeK (cx_Find N) (loopN Try.f27 0) st K) 34 [0, 1, 4, 6, 10, 11, 12, 100006] [1, 4, 5, 6] t [(.v (.sl 40 vs0) .no), (.v (.sl 3 vs1) .no), (.ptr 0 4 0), (.ptr 0 6 0), (.v (.sl 3 vs2) .no), (.v (.int .i64 n3) .no), (.v (.int .i64 n4) .no), .any] [[(4, ⟨40, [(.v (.int .i64 n5) .no), (.v (.bytes l6) (.own (.slot 0) 5)), (.v (.sl 40 vs7) (.own (.slot 0) 40))]⟩), (6, ⟨40, [(.v (.int .i64 n8) .no), (.v (.bytes l9) .no), (.v (.sl 40 vs10) .no)]⟩)]] K = S_Find_3 N vs1 vs2 n3 n5 l6 vs7 t vs0 n4 n8 l9 vs10 (fun a1 a2 a3 a4 a5 a6 a7 => K .ret [(.v (.sl 3 vs1) .no), (.ptr 0 4 0), (.v (.bool a1) .no), (.ptr 0 6 0)] [[(4, ⟨40, [(.v (.int .i64 a2) .no), (.v (.bytes a3) (.own (.slot 0) 5)), (.v (.sl 40 a4) (.own (.slot 0) 40))]⟩), (6, ⟨40, [(.v (.int .i64 a5) .no), (.v (.bytes a6) .no), (.v (.sl 40 a7) .no)]⟩)]]) (fun a4 a5 a6 => K (.exit 0) [(.v (.sl 3 vs1) .no), (.ptr 0 4 0), .any, (.ptr 0 6 0)] [[(4, ⟨40, [(.v (.int .i64 n5) .no), (.v (.bytes l6) (.own (.slot 0) 5)), (.v (.sl 40 vs7) (.own (.slot 0) 40))]⟩), (6, ⟨40, [(.v (.int .i64 a4) .no), (.v (.bytes a5) .no), (.v (.sl 40 a6) .no)]⟩)]])
  | 0, vs0, n4, n8, l9, vs10 => rfl
  | t + 1, vs0, n4, n8, l9, vs10 => (F_Find_3_ok N vs1 vs2 n3 n5 l6 vs7 vs0 n4 n8 l9 vs10 _ K).trans (congrArg (fun L => F_Find_3 N vs1 vs2 n3 n5 l6 vs7 L (fun a1 a2 a3 a4 a5 a6 a7 => K .ret [(.v (.sl 3 vs1) .no), (.ptr 0 4 0), (.v (.bool a1) .no), (.ptr 0 6 0)] [[(4, ⟨40, [(.v (.int .i64 a2) .no), (.v (.bytes a3) (.own (.slot 0) 5)), (.v (.sl 40 a4) (.own (.slot 0) 40))]⟩), (6, ⟨40, [(.v (.int .i64 a5) .no), (.v (.bytes a6) .no), (.v (.sl 40 a7) .no)]⟩)]]) (fun a4 a5 a6 => K (.exit 0) [(.v (.sl 3 vs1) .no), (.ptr 0 4 0), .any, (.ptr 0 6 0)] [[(4, ⟨40, [(.v (.int .i64 n5) .no), (.v (.bytes l6) (.own (.slot 0) 5)), (.v (.sl 40 vs7) (.own (.slot 0) 40))]⟩), (6, ⟨40, [(.v (.int .i64 a4) .no), (.v (.bytes a5) .no), (.v (.sl 40 a6) .no)]⟩)]]) vs0 n4 n8 l9 vs10) (funext fun vs0 => funext fun n4 => funext fun n8 => funext fun l9 => funext fun vs10 => S_Find_3_ok N vs1 vs2 n3 n5 l6 vs7 K t vs0 n4 n8 l9 vs10))
theorem s_Find_ok (N : Nat) (x0 : List V) (x1 : List V) : bodyK (cx_Find N) Try.f27 [.v (.sl 40 x0) .no, .v (.sl 3 x1) .no] [] r_Find = s_Find N x0 x1 := by
  kernel_rfl
theorem go_Find : Goes Try.prog 27 := goes_of Try.func27 (by kernel_rfl) (c := bodyOf Try.f27) (by kernel_rfl)
theorem eo_Find (s : List V → List V → Option (Int × List UInt8 × List V × Bool)) (hs : ∀ (x0 : List V) (x1 : List V) (r0 : Int) (r1 : List UInt8) (r2 : List V) (r3 : Bool), s x0 x1 = some (r0, r1, r2, r3) → PureRet Try.prog T 27 [.v (.sl 40 x0) .no, .v (.sl 3 x1) .no] [.agg [.v (.int .i64 r0) .no, .v (.bytes r1) .no, .v (.sl 40 r2) .no], .v (.bool r3) .no]) : EntOK Try.prog T ⟨27, e_Find s⟩ := by
  refine ⟨go_Find, fun R ds K r h => ?_, fun R ds K => ?_⟩
  · simp only [e_Find] at h
    split at h
    · obtain ⟨r0, r1, r2, r3, h1, h2⟩ := bnd4_some h
      exact ⟨_, h2, hs _ _ _ _ _ _ h1⟩
    · cases h
  · simp only [e_Find]
    split
    · rw [bnd4_b]; rfl
    · rfl
theorem co_Find (N : Nat) : CxOK Try.prog (cx_Find N) :=
  cxOK_of2 (es := [⟨47, e_copied (s_copied N N)⟩]) (me := [⟨45, e_IndexFuncF (s_IndexFuncF N)⟩, ⟨46, e_Find1 (s_Find1 N)⟩]) (ms := []) T_ok ⟨eo_copied _ (p_copied N N), trivial⟩ ⟨eo_IndexFuncF _ (p_IndexFuncF N), eo_Find1 _ (p_Find1 N), trivial⟩ trivial rfl (fun _ _ _ _ => rfl) (fun _ _ _ _ _ _ => rfl) rfl
theorem lk_Find_3 (N : Nat) : LoopOK (cx_Find N) 34 (loopN Try.f27 0) := by
  refine loopOK_of (rid := 3) (by kernel_rfl) rfl rfl fun R ds m K r h => ?_
  have h : l_Find_3 N ds m K = some r := h
  unfold l_Find_3 at h
  split at h
  · exact ⟨N, Eq.trans (S_Find_3_ok ..) h⟩
  · cases h
theorem lo_Find (N : Nat) : LoopsOK (cx_Find N) Try.f27.ntmps (bodyOf Try.f27) :=
  loopsOK_of (k := 1) (by kernel_rfl) ⟨trivial, lk_Find_3 N⟩
theorem p_Find (N : Nat) (x0 : List V) (x1 : List V) (r0 : Int) (r1 : List UInt8) (r2 : List V) (r3 : Bool) (h : s_Find N x0 x1 = some (r0, r1, r2, r3)) : PureRet Try.prog T 27 [.v (.sl 40 x0) .no, .v (.sl 3 x1) .no] [.agg [.v (.int .i64 r0) .no, .v (.bytes r1) .no, .v (.sl 40 r2) .no], .v (.bool r3) .no] :=
  pure_of (cx := cx_Find N) (by kernel_rfl) (co_Find N) Try.func27 (by kernel_rfl) (by kernel_rfl) (lo_Find N) rfl rfl rfl (rf := r_Find) ((s_Find_ok N x0 x1).trans h) (fun rs' m h => by
    unfold r_Find at h
    split at h
    · cases h; exact ⟨rfl, rfl⟩
    · cases h)
noncomputable def r_Text1 {α : Type} (K : List UInt8 → Option α) (rs : List D) (m : Mem) : Option α :=
  match rs, m with
  | [], [_, [(0, ⟨50, [.bld, .v (.bytes z0) (.own (.slot 0) 5)]⟩), (1, ⟨51, [.clos 34 [.ptr 0 0 0, .ptr 0 1 0]]⟩)]] => K z0
  | _, _ => none
noncomputable def F_Text1_1 {R : Type} (N : Nat) (f : List V → List UInt8 → List UInt8 → Option (List UInt8)) (l0 : List UInt8) (vs1 : List V) (n2 : Int) (Lq : Int → List UInt8 → Option R) (K0 : List UInt8 → Option R) (n3 : Int) (l4 : List UInt8) : Option R :=
  br (decide (n3 < n2))
  (br (decide (0 ≤ n3) && decide (n3 < (↑vs1.length : Int)))
    (at? vs1 n3.toNat fun x0 =>
      x0.unAgg fun l1 =>
        unCons l1 fun x2 l3 =>
          V.unInt IntKind.i64 x2 fun n4 =>
            unCons l3 fun x5 l6 =>
              x5.unBytes fun l7 =>
                unCons l6 fun x8 l9 =>
                  V.unSl 40 x8 fun l10 =>
                    unNil l9
                      (bnd1 (s_tagBytes N n4) fun l11 =>
                        bnd1 (s_Hex N l11) fun l12 =>
                          br (decide (l0.length + l12.length ≤ 9223372036854775807))
                            (bnd2 (s_WriteString N (l0 ++ l12) l4) fun n13 l14 =>
                              br (decide (0 < (↑l7.length : Int)))
                                (bnd1 (s_Hex N l7) fun l15 =>
                                  br (decide (1 + l15.length ≤ 9223372036854775807))
                                    (bnd2 (s_WriteString N (32 :: [].append l15) l14) fun n16 l17 =>
                                      bnd2 (s_WriteString N [10] l17) fun n18 l19 => br (decide (l0.length + 2 ≤ 9223372036854775807)) (bnd1 (f l10 (l0 ++ [32, 32]) l19) fun l20 => Lq (IntKind.i64.wrap (n3 + 1)) l20) none)
                                    none)
                                (bnd2 (s_WriteString N [10] l14) fun n21 l22 => br (decide (l0.length + 2 ≤ 9223372036854775807)) (bnd1 (f l10 (l0 ++ [32, 32]) l22) fun l23 => Lq (IntKind.i64.wrap (n3 + 1)) l23) none))
                            none))
    none)
  (K0 l4)
noncomputable def S_Text1_1 {R : Type} (N : Nat) (f : List V → List UInt8 → List UInt8 → Option (List UInt8)) (l0 : List UInt8) (vs1 : List V) (n2 : Int) : Nat → Int → List UInt8 → (List UInt8 → Option R) → Option R
  | 0, _, _, _ => none
  | t + 1, n3, l4, K0 => F_Text1_1 N f l0 vs1 n2 (fun n3 l4 => S_Text1_1 N f l0 vs1 n2 t n3 l4 K0) K0 n3 l4
noncomputable def l_Text1_1 {R : Type} (N : Nat) (f : List V → List UInt8 → List UInt8 → Option (List UInt8)) (ds : List D) (m : Mem) (K : Ex → List D → Mem → Option R) : Option R :=
  match ds, m with
  | [(.v (.str l0) .no), (.ptr 1 0 0), (.ptr 1 1 0), (.v (.sl 40 vs1) .no), (.v (.int .i64 n2) .no), (.v (.int .i64 n3) .no)], [[], [(0, ⟨50, [.bld, (.v (.bytes l4) (.own (.slot 0) 5))]⟩), (1, ⟨51, [(.clos 34 [(.ptr 0 0 0), (.ptr 0 1 0)])]⟩)]] => S_Text1_1 N f l0 vs1 n2 N n3 l4 (fun a0 => K (.exit 0) [] [[], [(0, ⟨50, [.bld, (.v (.bytes a0) (.own (.slot 0) 5))]⟩), (1, ⟨51, [(.clos 34 [(.ptr 0 0 0), (.ptr 0 1 0)])]⟩)]])
  | _, _ => none
noncomputable def C_Text1 {R : Type} (N : Nat) (f : List V → List UInt8 → List UInt8 → Option (List UInt8)) (x0 : List V) (x1 : List UInt8) (y0 : List UInt8) (K0 : List UInt8 → Option R) : Option R :=
  S_Text1_1 N f x1 x0 (↑x0.length : Int) N 0 y0 fun l0 => K0 l0
noncomputable def s_Text1 (N : Nat) : Nat → List V → List UInt8 → List UInt8 → Option (List UInt8)
  | 0, _, _, _ => none
  | n + 1, x0, x1, y0 => C_Text1 N (s_Text1 N n) x0 x1 y0 (fun z0 => some z0)
noncomputable def cx_Text1 (N : Nat) (f : List V → List UInt8 → List UInt8 → Option (List UInt8)) : Cx := { T := T, isPure := tabP [⟨37, e_tagBytes (s_tagBytes N)⟩, ⟨36, e_Hex (s_Hex N)⟩], pureK := fun g ds K => tabK [⟨37, e_tagBytes (s_tagBytes N)⟩, ⟨36, e_Hex (s_Hex N)⟩] g ds K, memK := fun g dst ds m K => tabMK [⟨34, e_Text1 f⟩, ⟨35, e_WriteString (s_WriteString N)⟩] g dst ds m K, meth := tabM [], keep := fun r => match r with | 1 => [1, 2, 3, 8, 9, 10] | _ => [], keepX := fun r => match r with | 1 => [] | _ => [], loopT := fun r ds m K => match r with | 1 => l_Text1_1 N f ds m K | _ => none, jumps := 9 }
theorem F_Text1_1_ok {R : Type} (N : Nat) (f : List V → List UInt8 → List UInt8 → Option (List UInt8)) (l0 : List UInt8) (vs1 : List V) (n2 : Int) (n3 : Int) (l4 : List UInt8) (L : List D → Mem → Option R) (K : Ex → List D → Mem → Option R) :
    roundK (fun st K => codeK (cx_Text1 N f) (loopN Try.f34 0) st K) 38 [1, 2, 3, 8, 9, 10] [] L [(.v (.str l0) .no), (.ptr 1 0 0), (.ptr 1 1 0), (.v (.sl 40 vs1) .no), (.v (.int .i64 n2) .no), (.v (.int .i64 n3) .no)] [[], [(0, ⟨50, [.bld, (.v (.bytes l4) (.own (.slot 0) 5))]⟩), (1, ⟨51, [(.clos 34 [(.ptr 0 0 0), (.ptr 0 1 0)])]⟩)]] K = F_Text1_1 N f l0 vs1 n2 (fun n3 l4 => L [(.v (.str l0) .no), (.ptr 1 0 0), (.ptr 1 1 0), (.v (.sl 40 vs1) .no), (.v (.int .i64 n2) .no), (.v (.int .i64 n3) .no)] [[], [(0, ⟨50, [.bld, (.v (.bytes l4) (.own (.slot 0) 5))]⟩), (1, ⟨51, [(.clos 34 [(.ptr 0 0 0), (.ptr 0 1 0)])]⟩)]]) (fun a0 => K (.exit 0) [] [[], [(0, ⟨50, [.bld, (.v (.bytes a0) (.own (.slot 0) 5))]⟩), (1, ⟨51, [(.clos 34 [(.ptr 0 0 0), (.ptr 0 1 0)])]⟩)]]) n3 l4 := by
  kernel_rfl
theorem S_Text1_1_ok {R : Type} (N : Nat) (f : List V → List UInt8 → List UInt8 → Option (List UInt8)) (l0 : List UInt8) (vs1 : List V) (n2 : Int) (K : Ex → List D → Mem → Option R) : ∀ (t : Nat) (n3 : Int) (l4 : List UInt8),
    loopK (fun st K => codeK (cx_Text1 N f) (loopN Try.f34 0) st K) 38 [1, 2, 3, 8, 9, 10] [] t [(.v (.str l0) .no), (.ptr 1 0 0), (.ptr 1 1 0), (.v (.sl 40 vs1) .no), (.v (.int .i64 n2) .no), (.v (.int .i64 n3) .no)] [[], [(0, ⟨50, [.bld, (.v (.bytes l4) (.own (.slot 0) 5))]⟩), (1, ⟨51, [(.clos 34 [(.ptr 0 0 0), (.ptr 0 1 0)])]⟩)]] K = S_Text1_1 N f l0 vs1 n2 t n3 l4 (fun a0 => K (.exit 0) [] [[], [(0, ⟨50, [.bld, (.v (.bytes a0) (.own (.slot 0) 5))]⟩), (1, ⟨51, [(.clos 34 [(.ptr 0 0 0), (.ptr 0 1 0)])]⟩)]])
  | 0, n3, l4 => rfl
  | t + 1, n3, l4 => (F_Text1_1_ok N f l0 vs1 n2 n3 l4 _ K).trans (congrArg (fun L => F_Text1_1 N f l0 vs1 n2 L (fun a0 => K (.exit 0) [] [[], [(0, ⟨50, [.bld, (.v (.bytes a0) (.own (.slot 0) 5))]⟩), (1, ⟨51, [(.clos 34 [(.ptr 0 0 0), (.ptr 0 1 0)])]⟩)]]) n3 l4) (funext fun n3 => funext fun l4 => S_Text1_1_ok N f l0 vs1 n2 K t n3 l4))
theorem C_Text1_ok {R : Type} (N : Nat) (f : List V → List UInt8 → List UInt8 → Option (List UInt8)) (x0 : List V) (x1 : List UInt8) (y0 : List UInt8) (K : List UInt8 → Option R) : bodyK (cx_Text1 N f) Try.f34 [.v (.sl 40 x0) .no, .v (.str x1) .no, .ptr 1 0 0, .ptr 1 1 0] [frOf 0 [⟨50, [.bld, .v (.bytes y0) (.own (.slot 0) 5)]⟩, ⟨51, [.clos 34 [.ptr 0 0 0, .ptr 0 1 0]]⟩]] (r_Text1 K) = C_Text1 N f x0 x1 y0 (fun z0 => K z0) := by
  kernel_rfl
theorem co_Text1 (N : Nat) (f : List V → List UInt8 → List UInt8 → Option (List UInt8)) (hf : ∀ (x0 : List V) (x1 : List UInt8) (y0 : List UInt8) (z0 : List UInt8), f x0 x1 y0 = some z0 → ViewRet2 Try.prog T 34 [.v (.sl 40 x0) .no, .v (.str x1) .no, .ptr 1 0 0, .ptr 1 1 0] [⟨50, [.bld, .v (.bytes y0) (.own (.slot 0) 5)]⟩, ⟨51, [.clos 34 [.ptr 0 0 0, .ptr 0 1 0]]⟩] [] [⟨50, [.bld, .v (.bytes z0) (.own (.slot 0) 5)]⟩, ⟨51, [.clos 34 [.ptr 0 0 0, .ptr 0 1 0]]⟩]) : CxOK Try.prog (cx_Text1 N f) :=
  cxOK_of2 (es := [⟨37, e_tagBytes (s_tagBytes N)⟩, ⟨36, e_Hex (s_Hex N)⟩]) (me := [⟨34, e_Text1 f⟩, ⟨35, e_WriteString (s_WriteString N)⟩]) (ms := []) T_ok ⟨eo_tagBytes _ (p_tagBytes N), eo_Hex _ (p_Hex N), trivial⟩ ⟨eo_Text1 f hf, eo_WriteString _ (p_WriteString N), trivial⟩ trivial rfl (fun _ _ _ _ => rfl) (fun _ _ _ _ _ _ => rfl) rfl
theorem lk_Text1_1 (N : Nat) (f : List V → List UInt8 → List UInt8 → Option (List UInt8)) : LoopOK (cx_Text1 N f) 38 (loopN Try.f34 0) := by
  refine loopOK_of (rid := 1) (by kernel_rfl) rfl rfl fun R ds m K r h => ?_
  have h : l_Text1_1 N f ds m K = some r := h
  unfold l_Text1_1 at h
  split at h
  · exact ⟨N, Eq.trans (S_Text1_1_ok ..) h⟩
  · cases h
theorem lo_Text1 (N : Nat) (f : List V → List UInt8 → List UInt8 → Option (List UInt8)) : LoopsOK (cx_Text1 N f) Try.f34.ntmps (bodyOf Try.f34) :=
  loopsOK_of (k := 1) (by kernel_rfl) ⟨trivial, lk_Text1_1 N f⟩
open Classical in
theorem p_Text1 (N : Nat) : ∀ (M : Nat) (x0 : List V) (x1 : List UInt8) (y0 : List UInt8) (z0 : List UInt8), s_Text1 N M x0 x1 y0 = some z0 → ViewRet2 Try.prog T 34 [.v (.sl 40 x0) .no, .v (.str x1) .no, .ptr 1 0 0, .ptr 1 1 0] [⟨50, [.bld, .v (.bytes y0) (.own (.slot 0) 5)]⟩, ⟨51, [.clos 34 [.ptr 0 0 0, .ptr 0 1 0]]⟩] [] [⟨50, [.bld, .v (.bytes z0) (.own (.slot 0) 5)]⟩, ⟨51, [.clos 34 [.ptr 0 0 0, .ptr 0 1 0]]⟩]
  | 0, _, _, _, _, h => by cases h
  | M + 1, x0, x1, y0, z0, h => by
      refine view_of2 (Bs₁ := [⟨50, [.bld, .v (.bytes y0) (.own (.slot 0) 5)]⟩, ⟨51, [.clos 34 [.ptr 0 0 0, .ptr 0 1 0]]⟩]) (Bs₂ := [⟨50, [.bld, .v (.bytes z0) (.own (.slot 0) 5)]⟩, ⟨51, [.clos 34 [.ptr 0 0 0, .ptr 0 1 0]]⟩]) (cx := cx_Text1 N (s_Text1 N M)) (by kernel_rfl) (co_Text1 N (s_Text1 N M) (p_Text1 N M)) Try.func34 (by kernel_rfl) (by kernel_rfl) (lo_Text1 N (s_Text1 N M)) rfl (rf := r_Text1 (fun z'0 => some z'0)) (r := z0) ?_ ?_
      · exact (C_Text1_ok N (s_Text1 N M) x0 x1 y0 _).trans h
      · intro rs' m' hx
        unfold r_Text1 at hx
        split at hx
        · cases hx; exact ⟨rfl, rfl, _, rfl⟩
        · cases hx
noncomputable def e_Text {R : Type} (s : List V → Option (List UInt8)) (ds : List D) (K : List D → Option R) : Option R :=
  match ds with
  | [.v (.sl 40 x0) .no] => bnd1 (s x0) fun r0 => K [.v (.str r0) .no]
  | _ => none
noncomputable def r_Text (rs : List D) (_ : Mem) : Option (List UInt8) :=
  match rs with
  | [.v (.str r0) _] => some (r0)
  | _ => none
noncomputable def s_Text (N : Nat) (x0 : List V) : Option (List UInt8) :=
  bnd2 (s_Encode N x0) fun l0 n1 => br (!decide (n1 = 0)) (some []) (bnd1 (s_Text1 N N x0 [] []) fun l2 => bnd1 (s_bString N l2) fun l3 => some l3)
noncomputable def cx_Text (N : Nat) : Cx := { T := T, isPure := tabP [⟨24, e_Encode (s_Encode N)⟩], pureK := fun g ds K => tabK [⟨24, e_Encode (s_Encode N)⟩] g ds K, memK := fun g dst ds m K => tabMK [⟨34, e_Text1 (s_Text1 N N)⟩, ⟨38, e_bString (s_bString N)⟩] g dst ds m K, meth := tabM [], keep := fun _ => [], keepX := fun _ => [], loopT := fun _ _ _ _ => none, jumps := 9 }
theorem s_Text_ok (N : Nat) (x0 : List V) : bodyK (cx_Text N) Try.f21 [.v (.sl 40 x0) .no] [] r_Text = s_Text N x0 := by
  kernel_rfl
theorem go_Text : Goes Try.prog 21 := goes_of Try.func21 (by kernel_rfl) (c := bodyOf Try.f21) (by kernel_rfl)
theorem eo_Text (s : List V → Option (List UInt8)) (hs : ∀ (x0 : List V) (r0 : List UInt8), s x0 = some r0 → PureRet Try.prog T 21 [.v (.sl 40 x0) .no] [.v (.str r0) .no]) : EntOK Try.prog T ⟨21, e_Text s⟩ := by
  refine ⟨go_Text, fun R ds K r h => ?_, fun R ds K => ?_⟩
  · simp only [e_Text] at h
    split at h
    · obtain ⟨r0, h1, h2⟩ := bnd1_some h
      exact ⟨_, h2, hs _ _ h1⟩
    · cases h
  · simp only [e_Text]
    split
    · rw [bnd1_b]; rfl
    · rfl
theorem co_Text (N : Nat) : CxOK Try.prog (cx_Text N) :=
  cxOK_of2 (es := [⟨24, e_Encode (s_Encode N)⟩]) (me := [⟨34, e_Text1 (s_Text1 N N)⟩, ⟨38, e_bString (s_bString N)⟩]) (ms := []) T_ok ⟨eo_Encode _ (p_Encode N), trivial⟩ ⟨eo_Text1 _ (p_Text1 N N), eo_bString _ (p_bString N), trivial⟩ trivial rfl (fun _ _ _ _ => rfl) (fun _ _ _ _ _ _ => rfl) rfl
theorem lo_Text (N : Nat) : LoopsOK (cx_Text N) Try.f21.ntmps (bodyOf Try.f21) :=
  loopsOK_of (k := 0) (by kernel_rfl) trivial
theorem p_Text (N : Nat) (x0 : List V) (r0 : List UInt8) (h : s_Text N x0 = some r0) : PureRet Try.prog T 21 [.v (.sl 40 x0) .no] [.v (.str r0) .no] :=
  pure_of (cx := cx_Text N) (by kernel_rfl) (co_Text N) Try.func21 (by kernel_rfl) (by kernel_rfl) (lo_Text N) rfl rfl rfl (rf := r_Text) ((s_Text_ok N x0).trans h) (fun rs' m h => by
    unfold r_Text at h
    split at h
    · cases h; exact ⟨rfl, rfl⟩
    · cases h)
noncomputable def e_works {R : Type} (s : Option (Bool)) (ds : List D) (K : List D → Option R) : Option R :=
  match ds with
  | [] => bnd1 (s) fun r0 => K [.v (.bool r0) .no]
  | _ => none
noncomputable def r_works (rs : List D) (_ : Mem) : Option (Bool) :=
  match rs with
  | [.v (.bool r0) _] => some (r0)
  | _ => none
noncomputable def s_works (N : Nat)  : Option (Bool) :=
  bnd2 (s_Encode N [V.agg [V.int IntKind.i64 132, V.bytes [UInt8.ofNat (Int.toNat 160), UInt8.ofNat (Int.toNat 1)], V.sl 40 []]]) fun l0 n1 =>
  bnd2 (s_Encode N [V.agg [V.int IntKind.i64 111, V.bytes [], V.sl 40 [V.agg [V.int IntKind.i64 132, V.bytes [UInt8.ofNat (Int.toNat 160), UInt8.ofNat (Int.toNat 1)], V.sl 40 []]]]]) fun l2 n3 =>
    bnd2 (s_Decode N [UInt8.ofNat (Int.toNat 132), UInt8.ofNat (Int.toNat 129), UInt8.ofNat (Int.toNat 2), UInt8.ofNat (Int.toNat 160), UInt8.ofNat (Int.toNat 1)]) fun l4 n5 =>
      bnd2 (s_Decode N [UInt8.ofNat (Int.toNat 132), UInt8.ofNat (Int.toNat 3), UInt8.ofNat (Int.toNat 160), UInt8.ofNat (Int.toNat 1)]) fun l6 n7 =>
        bnd2 (s_Decode N [UInt8.ofNat (Int.toNat 0)]) fun l8 n9 =>
          br (decide (n1 = 0))
            (br (decide (n3 = 0))
              (br (decide (l0.length ≤ 9223372036854775807))
                (br (decide (l0 = [132, 2, 160, 1]))
                  (br (decide (l2.length ≤ 9223372036854775807))
                    (br (decide (l2 = [111, 4, 132, 2, 160, 1]))
                      (br (decide (n5 = 4))
                        (br (decide (n7 = 5))
                          (br (decide (n9 = 4))
                            (bnd1 (s_Text N [V.agg [V.int IntKind.i64 111, V.bytes [], V.sl 40 [V.agg [V.int IntKind.i64 132, V.bytes [UInt8.ofNat (Int.toNat 160), UInt8.ofNat (Int.toNat 1)], V.sl 40 []]]]]) fun l10 =>
                              some (decide (l10 = [54, 102, 10, 32, 32, 56, 52, 32, 97, 48, 48, 49, 10])))
                            (some false))
                          (some false))
                        (some false))
                      (some false))
                    none)
                  (some false))
                none)
              (some false))
            (some false)
noncomputable def cx_works (N : Nat) : Cx := { T := T, isPure := tabP [⟨24, e_Encode (s_Encode N)⟩, ⟨17, e_Decode (s_Decode N)⟩, ⟨21, e_Text (s_Text N)⟩], pureK := fun g ds K => tabK [⟨24, e_Encode (s_Encode N)⟩, ⟨17, e_Decode (s_Decode N)⟩, ⟨21, e_Text (s_Text N)⟩] g ds K, memK := fun g dst ds m K => tabMK [] g dst ds m K, meth := tabM [], keep := fun _ => [], keepX := fun _ => [], loopT := fun _ _ _ _ => none, jumps := 9 }
theorem s_works_ok (N : Nat)  : bodyK (cx_works N) Try.f16 [] [] r_works = s_works N  := by
  kernel_rfl
theorem go_works : Goes Try.prog 16 := goes_of Try.func16 (by kernel_rfl) (c := bodyOf Try.f16) (by kernel_rfl)
theorem eo_works (s : Option (Bool)) (hs : ∀  (r0 : Bool), s  = some r0 → PureRet Try.prog T 16 [] [.v (.bool r0) .no]) : EntOK Try.prog T ⟨16, e_works s⟩ := by
  refine ⟨go_works, fun R ds K r h => ?_, fun R ds K => ?_⟩
  · simp only [e_works] at h
    split at h
    · obtain ⟨r0, h1, h2⟩ := bnd1_some h
      exact ⟨_, h2, hs _ h1⟩
    · cases h
  · simp only [e_works]
    split
    · rw [bnd1_b]; rfl
    · rfl
theorem co_works (N : Nat) : CxOK Try.prog (cx_works N) :=
  cxOK_of2 (es := [⟨24, e_Encode (s_Encode N)⟩, ⟨17, e_Decode (s_Decode N)⟩, ⟨21, e_Text (s_Text N)⟩]) (me := []) (ms := []) T_ok ⟨eo_Encode _ (p_Encode N), eo_Decode _ (p_Decode N), eo_Text _ (p_Text N), trivial⟩ trivial trivial rfl (fun _ _ _ _ => rfl) (fun _ _ _ _ _ _ => rfl) rfl
theorem lo_works (N : Nat) : LoopsOK (cx_works N) Try.f16.ntmps (bodyOf Try.f16) :=
  loopsOK_of (k := 0) (by kernel_rfl) trivial
theorem p_works (N : Nat)  (r0 : Bool) (h : s_works N  = some r0) : PureRet Try.prog T 16 [] [.v (.bool r0) .no] :=
  pure_of (cx := cx_works N) (by kernel_rfl) (co_works N) Try.func16 (by kernel_rfl) (by kernel_rfl) (lo_works N) rfl rfl rfl (rf := r_works) ((s_works_ok N ).trans h) (fun rs' m h => by
    unfold r_works at h
    split at h
    · cases h; exact ⟨rfl, rfl⟩
    · cases h)
noncomputable def e_lTags {R : Type} (s : Int → Option (Bool)) (ds : List D) (K : List D → Option R) : Option R :=
  match ds with
  | [.v (.int .i64 x0) .no] => bnd1 (s x0) fun r0 => K [.v (.bool r0) .no]
  | _ => none
noncomputable def r_lTags (rs : List D) (_ : Mem) : Option (Bool) :=
  match rs with
  | [.v (.bool r0) _] => some (r0)
  | _ => none
noncomputable def s_lTags (N : Nat) (x0 : Int) : Option (Bool) :=
  bnd1 (s_Valid N x0) fun b0 => bnd1 (s_rValid N x0) fun b1 => br (b0 == b1) (bnd1 (s_Constructed N x0) fun b2 => bnd1 (s_rConstructed N x0) fun b3 => br (b2 == b3) (bnd1 (s_works N) fun b4 => some b4) (some false)) (some false)
noncomputable def cx_lTags (N : Nat) : Cx := { T := T, isPure := tabP [⟨12, e_Valid (s_Valid N)⟩, ⟨13, e_rValid (s_rValid N)⟩, ⟨14, e_Constructed (s_Constructed N)⟩, ⟨15, e_rConstructed (s_rConstructed N)⟩, ⟨16, e_works (s_works N)⟩], pureK := fun g ds K => tabK [⟨12, e_Valid (s_Valid N)⟩, ⟨13, e_rValid (s_rValid N)⟩, ⟨14, e_Constructed (s_Constructed N)⟩, ⟨15, e_rConstructed (s_rConstructed N)⟩, ⟨16, e_works (s_works N)⟩] g ds K, memK := fun g dst ds m K => tabMK [] g dst ds m K, meth := tabM [], keep := fun _ => [], keepX := fun _ => [], loopT := fun _ _ _ _ => none, jumps := 9 }
theorem s_lTags_ok (N : Nat) (x0 : Int) : bodyK (cx_lTags N) Try.f3 [.v (.int .i64 x0) .no] [] r_lTags = s_lTags N x0 := by
  kernel_rfl
theorem go_lTags : Goes Try.prog 3 := goes_of Try.func3 (by kernel_rfl) (c := bodyOf Try.f3) (by kernel_rfl)
theorem eo_lTags (s : Int → Option (Bool)) (hs : ∀ (x0 : Int) (r0 : Bool), s x0 = some r0 → PureRet Try.prog T 3 [.v (.int .i64 x0) .no] [.v (.bool r0) .no]) : EntOK Try.prog T ⟨3, e_lTags s⟩ := by
  refine ⟨go_lTags, fun R ds K r h => ?_, fun R ds K => ?_⟩
  · simp only [e_lTags] at h
    split at h
    · obtain ⟨r0, h1, h2⟩ := bnd1_some h
      exact ⟨_, h2, hs _ _ h1⟩
    · cases h
  · simp only [e_lTags]
    split
    · rw [bnd1_b]; rfl
    · rfl
theorem co_lTags (N : Nat) : CxOK Try.prog (cx_lTags N) :=
  cxOK_of2 (es := [⟨12, e_Valid (s_Valid N)⟩, ⟨13, e_rValid (s_rValid N)⟩, ⟨14, e_Constructed (s_Constructed N)⟩, ⟨15, e_rConstructed (s_rConstructed N)⟩, ⟨16, e_works (s_works N)⟩]) (me := []) (ms := []) T_ok ⟨eo_Valid _ (p_Valid N), eo_rValid _ (p_rValid N), eo_Constructed _ (p_Constructed N), eo_rConstructed _ (p_rConstructed N), eo_works _ (p_works N), trivial⟩ trivial trivial rfl (fun _ _ _ _ => rfl) (fun _ _ _ _ _ _ => rfl) rfl
theorem lo_lTags (N : Nat) : LoopsOK (cx_lTags N) Try.f3.ntmps (bodyOf Try.f3) :=
  loopsOK_of (k := 0) (by kernel_rfl) trivial
theorem p_lTags (N : Nat) (x0 : Int) (r0 : Bool) (h : s_lTags N x0 = some r0) : PureRet Try.prog T 3 [.v (.int .i64 x0) .no] [.v (.bool r0) .no] :=
  pure_of (cx := cx_lTags N) (by kernel_rfl) (co_lTags N) Try.func3 (by kernel_rfl) (by kernel_rfl) (lo_lTags N) rfl rfl rfl (rf := r_lTags) ((s_lTags_ok N x0).trans h) (fun rs' m h => by
    unfold r_lTags at h
    split at h
    · cases h; exact ⟨rfl, rfl⟩
    · cases h)
noncomputable def e_lEncodes {R : Type} (s : List V → Option (Bool)) (ds : List D) (K : List D → Option R) : Option R :=
  match ds with
  | [.v (.sl 40 x0) .no] => bnd1 (s x0) fun r0 => K [.v (.bool r0) .no]
  | _ => none
noncomputable def r_lEncodes (rs : List D) (_ : Mem) : Option (Bool) :=
  match rs with
  | [.v (.bool r0) _] => some (r0)
  | _ => none
noncomputable def s_lEncodes (N : Nat) (x0 : List V) : Option (Bool) :=
  bnd1 (s_few N x0) fun b0 =>
  br (!b0) (bnd1 (s_works N) fun b1 => some b1)
    (bnd2 (s_Encode N x0) fun l2 n3 =>
      bnd2 (s_rEncode N x0) fun l4 n5 =>
        br (decide (n3 = n5))
          (br (decide (l2.length ≤ 9223372036854775807))
            (br (decide (l4.length ≤ 9223372036854775807)) (br (decide (l2 = l4)) (bnd1 (s_Size N x0) fun n6 => br (decide (n6 = (↑l4.length : Int))) (bnd1 (s_works N) fun b7 => some b7) (some false)) (some false)) none) none)
          (some false))
noncomputable def cx_lEncodes (N : Nat) : Cx := { T := T, isPure := tabP [⟨23, e_few (s_few N)⟩, ⟨16, e_works (s_works N)⟩, ⟨24, e_Encode (s_Encode N)⟩, ⟨25, e_rEncode (s_rEncode N)⟩, ⟨26, e_Size (s_Size N)⟩], pureK := fun g ds K => tabK [⟨23, e_few (s_few N)⟩, ⟨16, e_works (s_works N)⟩, ⟨24, e_Encode (s_Encode N)⟩, ⟨25, e_rEncode (s_rEncode N)⟩, ⟨26, e_Size (s_Size N)⟩] g ds K, memK := fun g dst ds m K => tabMK [] g dst ds m K, meth := tabM [], keep := fun _ => [], keepX := fun _ => [], loopT := fun _ _ _ _ => none, jumps := 9 }
theorem s_lEncodes_ok (N : Nat) (x0 : List V) : bodyK (cx_lEncodes N) Try.f9 [.v (.sl 40 x0) .no] [] r_lEncodes = s_lEncodes N x0 := by
  kernel_rfl
theorem go_lEncodes : Goes Try.prog 9 := goes_of Try.func9 (by kernel_rfl) (c := bodyOf Try.f9) (by kernel_rfl)
theorem eo_lEncodes (s : List V → Option (Bool)) (hs : ∀ (x0 : List V) (r0 : Bool), s x0 = some r0 → PureRet Try.prog T 9 [.v (.sl 40 x0) .no] [.v (.bool r0) .no]) : EntOK Try.prog T ⟨9, e_lEncodes s⟩ := by
  refine ⟨go_lEncodes, fun R ds K r h => ?_, fun R ds K => ?_⟩
  · simp only [e_lEncodes] at h
    split at h
    · obtain ⟨r0, h1, h2⟩ := bnd1_some h
      exact ⟨_, h2, hs _ _ h1⟩
    · cases h
  · simp only [e_lEncodes]
    split
    · rw [bnd1_b]; rfl
    · rfl
theorem co_lEncodes (N : Nat) : CxOK Try.prog (cx_lEncodes N) :=
  cxOK_of2 (es := [⟨23, e_few (s_few N)⟩, ⟨16, e_works (s_works N)⟩, ⟨24, e_Encode (s_Encode N)⟩, ⟨25, e_rEncode (s_rEncode N)⟩, ⟨26, e_Size (s_Size N)⟩]) (me := []) (ms := []) T_ok ⟨eo_few _ (p_few N), eo_works _ (p_works N), eo_Encode _ (p_Encode N), eo_rEncode _ (p_rEncode N), eo_Size _ (p_Size N), trivial⟩ trivial trivial rfl (fun _ _ _ _ => rfl) (fun _ _ _ _ _ _ => rfl) rfl
theorem lo_lEncodes (N : Nat) : LoopsOK (cx_lEncodes N) Try.f9.ntmps (bodyOf Try.f9) :=
  loopsOK_of (k := 0) (by kernel_rfl) trivial
theorem p_lEncodes (N : Nat) (x0 : List V) (r0 : Bool) (h : s_lEncodes N x0 = some r0) : PureRet Try.prog T 9 [.v (.sl 40 x0) .no] [.v (.bool r0) .no] :=
  pure_of (cx := cx_lEncodes N) (by kernel_rfl) (co_lEncodes N) Try.func9 (by kernel_rfl) (by kernel_rfl) (lo_lEncodes N) rfl rfl rfl (rf := r_lEncodes) ((s_lEncodes_ok N x0).trans h) (fun rs' m h => by
    unfold r_lEncodes at h
    split at h
    · cases h; exact ⟨rfl, rfl⟩
    · cases h)
noncomputable def e_lDecodes {R : Type} (s : List UInt8 → Option (Bool)) (ds : List D) (K : List D → Option R) : Option R :=
  match ds with
  | [.v (.bytes x0) .no] => bnd1 (s x0) fun r0 => K [.v (.bool r0) .no]
  | _ => none
noncomputable def r_lDecodes (rs : List D) (_ : Mem) : Option (Bool) :=
  match rs with
  | [.v (.bool r0) _] => some (r0)
  | _ => none
noncomputable def s_lDecodes (N : Nat) (x0 : List UInt8) : Option (Bool) :=
  br (decide (6000 < (↑x0.length : Int))) (bnd1 (s_works N) fun b0 => some b0)
  (bnd2 (s_Decode N x0) fun l1 n2 => bnd2 (s_rDecode N x0) fun l3 n4 => br (decide (n2 = n4)) (bnd1 (s_rSame N N l1 l3) fun b5 => br b5 (bnd1 (s_works N) fun b6 => some b6) (some false)) (some false))
noncomputable def cx_lDecodes (N : Nat) : Cx := { T := T, isPure := tabP [⟨16, e_works (s_works N)⟩, ⟨17, e_Decode (s_Decode N)⟩, ⟨18, e_rDecode (s_rDecode N)⟩, ⟨19, e_rSame (s_rSame N N)⟩], pureK := fun g ds K => tabK [⟨16, e_works (s_works N)⟩, ⟨17, e_Decode (s_Decode N)⟩, ⟨18, e_rDecode (s_rDecode N)⟩, ⟨19, e_rSame (s_rSame N N)⟩] g ds K, memK := fun g dst ds m K => tabMK [] g dst ds m K, meth := tabM [], keep := fun _ => [], keepX := fun _ => [], loopT := fun _ _ _ _ => none, jumps := 9 }
theorem s_lDecodes_ok (N : Nat) (x0 : List UInt8) : bodyK (cx_lDecodes N) Try.f4 [.v (.bytes x0) .no] [] r_lDecodes = s_lDecodes N x0 := by
  kernel_rfl
theorem go_lDecodes : Goes Try.prog 4 := goes_of Try.func4 (by kernel_rfl) (c := bodyOf Try.f4) (by kernel_rfl)
theorem eo_lDecodes (s : List UInt8 → Option (Bool)) (hs : ∀ (x0 : List UInt8) (r0 : Bool), s x0 = some r0 → PureRet Try.prog T 4 [.v (.bytes x0) .no] [.v (.bool r0) .no]) : EntOK Try.prog T ⟨4, e_lDecodes s⟩ := by
  refine ⟨go_lDecodes, fun R ds K r h => ?_, fun R ds K => ?_⟩
  · simp only [e_lDecodes] at h
    split at h
    · obtain ⟨r0, h1, h2⟩ := bnd1_some h
      exact ⟨_, h2, hs _ _ h1⟩
    · cases h
  · simp only [e_lDecodes]
    split
    · rw [bnd1_b]; rfl
    · rfl
theorem co_lDecodes (N : Nat) : CxOK Try.prog (cx_lDecodes N) :=
  cxOK_of2 (es := [⟨16, e_works (s_works N)⟩, ⟨17, e_Decode (s_Decode N)⟩, ⟨18, e_rDecode (s_rDecode N)⟩, ⟨19, e_rSame (s_rSame N N)⟩]) (me := []) (ms := []) T_ok ⟨eo_works _ (p_works N), eo_Decode _ (p_Decode N), eo_rDecode _ (p_rDecode N), eo_rSame _ (p_rSame N N), trivial⟩ trivial trivial rfl (fun _ _ _ _ => rfl) (fun _ _ _ _ _ _ => rfl) rfl
theorem lo_lDecodes (N : Nat) : LoopsOK (cx_lDecodes N) Try.f4.ntmps (bodyOf Try.f4) :=
  loopsOK_of (k := 0) (by kernel_rfl) trivial
theorem p_lDecodes (N : Nat) (x0 : List UInt8) (r0 : Bool) (h : s_lDecodes N x0 = some r0) : PureRet Try.prog T 4 [.v (.bytes x0) .no] [.v (.bool r0) .no] :=
  pure_of (cx := cx_lDecodes N) (by kernel_rfl) (co_lDecodes N) Try.func4 (by kernel_rfl) (by kernel_rfl) (lo_lDecodes N) rfl rfl rfl (rf := r_lDecodes) ((s_lDecodes_ok N x0).trans h) (fun rs' m h => by
    unfold r_lDecodes at h
    split at h
    · cases h; exact ⟨rfl, rfl⟩
    · cases h)
noncomputable def e_lFinds {R : Type} (s : List V → List V → Option (Bool)) (ds : List D) (K : List D → Option R) : Option R :=
  match ds with
  | [.v (.sl 40 x0) .no, .v (.sl 3 x1) .no] => bnd1 (s x0 x1) fun r0 => K [.v (.bool r0) .no]
  | _ => none
noncomputable def r_lFinds (rs : List D) (_ : Mem) : Option (Bool) :=
  match rs with
  | [.v (.bool r0) _] => some (r0)
  | _ => none
noncomputable def s_lFinds (N : Nat) (x0 : List V) (x1 : List V) : Option (Bool) :=
  bnd1 (s_few N x0) fun b0 =>
  br (!b0) (bnd1 (s_works N) fun b1 => some b1)
    (br (decide (100 < (↑x1.length : Int))) (bnd1 (s_works N) fun b2 => some b2)
      (bnd4 (s_Find N x0 x1) fun n3 l4 l5 b6 =>
        bnd4 (s_rFind N x0 x1) fun n7 l8 l9 b10 =>
          br (b6 == b10) (bnd1 (s_rSame N N [V.agg [V.int IntKind.i64 n3, V.bytes l4, V.sl 40 l5]] [V.agg [V.int IntKind.i64 n7, V.bytes l8, V.sl 40 l9]]) fun b11 => br b11 (bnd1 (s_works N) fun b12 => some b12) (some false)) (some false)))
noncomputable def cx_lFinds (N : Nat) : Cx := { T := T, isPure := tabP [⟨23, e_few (s_few N)⟩, ⟨16, e_works (s_works N)⟩, ⟨27, e_Find (s_Find N)⟩, ⟨28, e_rFind (s_rFind N)⟩, ⟨19, e_rSame (s_rSame N N)⟩], pureK := fun g ds K => tabK [⟨23, e_few (s_few N)⟩, ⟨16, e_works (s_works N)⟩, ⟨27, e_Find (s_Find N)⟩, ⟨28, e_rFind (s_rFind N)⟩, ⟨19, e_rSame (s_rSame N N)⟩] g ds K, memK := fun g dst ds m K => tabMK [] g dst ds m K, meth := tabM [], keep := fun _ => [], keepX := fun _ => [], loopT := fun _ _ _ _ => none, jumps := 9 }
theorem s_lFinds_ok (N : Nat) (x0 : List V) (x1 : List V) : bodyK (cx_lFinds N) Try.f10 [.v (.sl 40 x0) .no, .v (.sl 3 x1) .no] [] r_lFinds = s_lFinds N x0 x1 := by
  kernel_rfl
theorem go_lFinds : Goes Try.prog 10 := goes_of Try.func10 (by kernel_rfl) (c := bodyOf Try.f10) (by kernel_rfl)
theorem eo_lFinds (s : List V → List V → Option (Bool)) (hs : ∀ (x0 : List V) (x1 : List V) (r0 : Bool), s x0 x1 = some r0 → PureRet Try.prog T 10 [.v (.sl 40 x0) .no, .v (.sl 3 x1) .no] [.v (.bool r0) .no]) : EntOK Try.prog T ⟨10, e_lFinds s⟩ := by
  refine ⟨go_lFinds, fun R ds K r h => ?_, fun R ds K => ?_⟩
  · simp only [e_lFinds] at h
    split at h
    · obtain ⟨r0, h1, h2⟩ := bnd1_some h
      exact ⟨_, h2, hs _ _ _ h1⟩
    · cases h
  · simp only [e_lFinds]
    split
    · rw [bnd1_b]; rfl
    · rfl
theorem co_lFinds (N : Nat) : CxOK Try.prog (cx_lFinds N) :=
  cxOK_of2 (es := [⟨23, e_few (s_few N)⟩, ⟨16, e_works (s_works N)⟩, ⟨27, e_Find (s_Find N)⟩, ⟨28, e_rFind (s_rFind N)⟩, ⟨19, e_rSame (s_rSame N N)⟩]) (me := []) (ms := []) T_ok ⟨eo_few _ (p_few N), eo_works _ (p_works N), eo_Find _ (p_Find N), eo_rFind _ (p_rFind N), eo_rSame _ (p_rSame N N), trivial⟩ trivial trivial rfl (fun _ _ _ _ => rfl) (fun _ _ _ _ _ _ => rfl) rfl
theorem lo_lFinds (N : Nat) : LoopsOK (cx_lFinds N) Try.f10.ntmps (bodyOf Try.f10) :=
  loopsOK_of (k := 0) (by kernel_rfl) trivial
theorem p_lFinds (N : Nat) (x0 : List V) (x1 : List V) (r0 : Bool) (h : s_lFinds N x0 x1 = some r0) : PureRet Try.prog T 10 [.v (.sl 40 x0) .no, .v (.sl 3 x1) .no] [.v (.bool r0) .no] :=
  pure_of (cx := cx_lFinds N) (by kernel_rfl) (co_lFinds N) Try.func10 (by kernel_rfl) (by kernel_rfl) (lo_lFinds N) rfl rfl rfl (rf := r_lFinds) ((s_lFinds_ok N x0 x1).trans h) (fun rs' m h => by
    unfold r_lFinds at h
    split at h
    · cases h; exact ⟨rfl, rfl⟩
    · cases h)
noncomputable def e_lCompares {R : Type} (s : List V → List V → Option (Bool)) (ds : List D) (K : List D → Option R) : Option R :=
  match ds with
  | [.v (.sl 40 x0) .no, .v (.sl 40 x1) .no] => bnd1 (s x0 x1) fun r0 => K [.v (.bool r0) .no]
  | _ => none
noncomputable def r_lCompares (rs : List D) (_ : Mem) : Option (Bool) :=
  match rs with
  | [.v (.bool r0) _] => some (r0)
  | _ => none
noncomputable def s_lCompares (N : Nat) (x0 : List V) (x1 : List V) : Option (Bool) :=
  bnd1 (s_few N x0) fun b0 =>
  br (!b0) (bnd1 (s_works N) fun b1 => some b1)
    (bnd1 (s_few N x1) fun b2 =>
      br (!b2) (bnd1 (s_works N) fun b3 => some b3)
        (bnd1 (s_Same N N x0 x1) fun b4 =>
          bnd1 (s_rSame N N x0 x1) fun b5 =>
            br (b4 == b5) (bnd1 (s_Same N N x1 x0) fun b6 => bnd1 (s_rSame N N x0 x1) fun b7 => br (b6 == b7) (bnd1 (s_Same N N x0 x0) fun b8 => br b8 (bnd1 (s_works N) fun b9 => some b9) (some false)) (some false)) (some false)))
noncomputable def cx_lCompares (N : Nat) : Cx := { T := T, isPure := tabP [⟨23, e_few (s_few N)⟩, ⟨16, e_works (s_works N)⟩, ⟨29, e_Same (s_Same N N)⟩, ⟨19, e_rSame (s_rSame N N)⟩], pureK := fun g ds K => tabK [⟨23, e_few (s_few N)⟩, ⟨16, e_works (s_works N)⟩, ⟨29, e_Same (s_Same N N)⟩, ⟨19, e_rSame (s_rSame N N)⟩] g ds K, memK := fun g dst ds m K => tabMK [] g dst ds m K, meth := tabM [], keep := fun _ => [], keepX := fun _ => [], loopT := fun _ _ _ _ => none, jumps := 9 }
theorem s_lCompares_ok (N : Nat) (x0 : List V) (x1 : List V) : bodyK (cx_lCompares N) Try.f11 [.v (.sl 40 x0) .no, .v (.sl 40 x1) .no] [] r_lCompares = s_lCompares N x0 x1 := by
  kernel_rfl
theorem go_lCompares : Goes Try.prog 11 := goes_of Try.func11 (by kernel_rfl) (c := bodyOf Try.f11) (by kernel_rfl)
theorem eo_lCompares (s : List V → List V → Option (Bool)) (hs : ∀ (x0 : List V) (x1 : List V) (r0 : Bool), s x0 x1 = some r0 → PureRet Try.prog T 11 [.v (.sl 40 x0) .no, .v (.sl 40 x1) .no] [.v (.bool r0) .no]) : EntOK Try.prog T ⟨11, e_lCompares s⟩ := by
  refine ⟨go_lCompares, fun R ds K r h => ?_, fun R ds K => ?_⟩
  · simp only [e_lCompares] at h
    split at h
    · obtain ⟨r0, h1, h2⟩ := bnd1_some h
      exact ⟨_, h2, hs _ _ _ h1⟩
    · cases h
  · simp only [e_lCompares]
    split
    · rw [bnd1_b]; rfl
    · rfl
theorem co_lCompares (N : Nat) : CxOK Try.prog (cx_lCompares N) :=
  cxOK_of2 (es := [⟨23, e_few (s_few N)⟩, ⟨16, e_works (s_works N)⟩, ⟨29, e_Same (s_Same N N)⟩, ⟨19, e_rSame (s_rSame N N)⟩]) (me := []) (ms := []) T_ok ⟨eo_few _ (p_few N), eo_works _ (p_works N), eo_Same _ (p_Same N N), eo_rSame _ (p_rSame N N), trivial⟩ trivial trivial rfl (fun _ _ _ _ => rfl) (fun _ _ _ _ _ _ => rfl) rfl
theorem lo_lCompares (N : Nat) : LoopsOK (cx_lCompares N) Try.f11.ntmps (bodyOf Try.f11) :=
  loopsOK_of (k := 0) (by kernel_rfl) trivial
theorem p_lCompares (N : Nat) (x0 : List V) (x1 : List V) (r0 : Bool) (h : s_lCompares N x0 x1 = some r0) : PureRet Try.prog T 11 [.v (.sl 40 x0) .no, .v (.sl 40 x1) .no] [.v (.bool r0) .no] :=
  pure_of (cx := cx_lCompares N) (by kernel_rfl) (co_lCompares N) Try.func11 (by kernel_rfl) (by kernel_rfl) (lo_lCompares N) rfl rfl rfl (rf := r_lCompares) ((s_lCompares_ok N x0 x1).trans h) (fun rs' m h => by
    unfold r_lCompares at h
    split at h
    · cases h; exact ⟨rfl, rfl⟩
    · cases h)
noncomputable def e_lShows {R : Type} (s : List V → Option (Bool)) (ds : List D) (K : List D → Option R) : Option R :=
  match ds with
  | [.v (.sl 40 x0) .no] => bnd1 (s x0) fun r0 => K [.v (.bool r0) .no]
  | _ => none
noncomputable def r_lShows (rs : List D) (_ : Mem) : Option (Bool) :=
  match rs with
  | [.v (.bool r0) _] => some (r0)
  | _ => none
noncomputable def s_lShows (N : Nat) (x0 : List V) : Option (Bool) :=
  bnd1 (s_Left N N x0 1500) fun n0 => br (decide (n0 < 0)) (bnd1 (s_works N) fun b1 => some b1) (bnd1 (s_Text N x0) fun l2 => bnd1 (s_rText N x0) fun l3 => br (decide (l2 = l3)) (bnd1 (s_works N) fun b4 => some b4) (some false))
noncomputable def cx_lShows (N : Nat) : Cx := { T := T, isPure := tabP [⟨20, e_Left (s_Left N N)⟩, ⟨16, e_works (s_works N)⟩, ⟨21, e_Text (s_Text N)⟩, ⟨22, e_rText (s_rText N)⟩], pureK := fun g ds K => tabK [⟨20, e_Left (s_Left N N)⟩, ⟨16, e_works (s_works N)⟩, ⟨21, e_Text (s_Text N)⟩, ⟨22, e_rText (s_rText N)⟩] g ds K, memK := fun g dst ds m K => tabMK [] g dst ds m K, meth := tabM [], keep := fun _ => [], keepX := fun _ => [], loopT := fun _ _ _ _ => none, jumps := 9 }
theorem s_lShows_ok (N : Nat) (x0 : List V) : bodyK (cx_lShows N) Try.f5 [.v (.sl 40 x0) .no] [] r_lShows = s_lShows N x0 := by
  kernel_rfl
theorem go_lShows : Goes Try.prog 5 := goes_of Try.func5 (by kernel_rfl) (c := bodyOf Try.f5) (by kernel_rfl)
theorem eo_lShows (s : List V → Option (Bool)) (hs : ∀ (x0 : List V) (r0 : Bool), s x0 = some r0 → PureRet Try.prog T 5 [.v (.sl 40 x0) .no] [.v (.bool r0) .no]) : EntOK Try.prog T ⟨5, e_lShows s⟩ := by
  refine ⟨go_lShows, fun R ds K r h => ?_, fun R ds K => ?_⟩
  · simp only [e_lShows] at h
    split at h
    · obtain ⟨r0, h1, h2⟩ := bnd1_some h
      exact ⟨_, h2, hs _ _ h1⟩
    · cases h
  · simp only [e_lShows]
    split
    · rw [bnd1_b]; rfl
    · rfl
theorem co_lShows (N : Nat) : CxOK Try.prog (cx_lShows N) :=
  cxOK_of2 (es := [⟨20, e_Left (s_Left N N)⟩, ⟨16, e_works (s_works N)⟩, ⟨21, e_Text (s_Text N)⟩, ⟨22, e_rText (s_rText N)⟩]) (me := []) (ms := []) T_ok ⟨eo_Left _ (p_Left N N), eo_works _ (p_works N), eo_Text _ (p_Text N), eo_rText _ (p_rText N), trivial⟩ trivial trivial rfl (fun _ _ _ _ => rfl) (fun _ _ _ _ _ _ => rfl) rfl
theorem lo_lShows (N : Nat) : LoopsOK (cx_lShows N) Try.f5.ntmps (bodyOf Try.f5) :=
  loopsOK_of (k := 0) (by kernel_rfl) trivial
theorem p_lShows (N : Nat) (x0 : List V) (r0 : Bool) (h : s_lShows N x0 = some r0) : PureRet Try.prog T 5 [.v (.sl 40 x0) .no] [.v (.bool r0) .no] :=
  pure_of (cx := cx_lShows N) (by kernel_rfl) (co_lShows N) Try.func5 (by kernel_rfl) (by kernel_rfl) (lo_lShows N) rfl rfl rfl (rf := r_lShows) ((s_lShows_ok N x0).trans h) (fun rs' m h => by
    unfold r_lShows at h
    split at h
    · cases h; exact ⟨rfl, rfl⟩
    · cases h)
noncomputable def e_lBack {R : Type} (s : List V → List UInt8 → Option (Bool)) (ds : List D) (K : List D → Option R) : Option R :=
  match ds with
  | [.v (.sl 40 x0) .no, .v (.bytes x1) .no] => bnd1 (s x0 x1) fun r0 => K [.v (.bool r0) .no]
  | _ => none
noncomputable def r_lBack (rs : List D) (_ : Mem) : Option (Bool) :=
  match rs with
  | [.v (.bool r0) _] => some (r0)
  | _ => none
noncomputable def s_lBack (N : Nat) (x0 : List V) (x1 : List UInt8) : Option (Bool) :=
  bnd1 (s_few N x0) fun b0 =>
  br (!b0) (bnd1 (s_works N) fun b1 => some b1)
    (br (decide (6000 < (↑x1.length : Int))) (bnd1 (s_works N) fun b2 => some b2)
      (bnd2 (s_Encode N x0) fun l3 n4 =>
        br (decide (n4 = 0))
          (bnd2 (s_Decode N l3) fun l5 n6 =>
            br (!decide (n6 = 0)) (some false)
              (bnd1 (s_rSame N N l5 x0) fun b7 =>
                br (!b7) (some false)
                  (br (decide (4096 < (↑l3.length : Int))) (some false)
                    (bnd2 (s_Decode N x1) fun l8 n9 =>
                      br (decide (n9 = 0))
                        (bnd2 (s_Encode N l8) fun l10 n11 =>
                          br (!decide (n11 = 0)) (some false)
                            (br (decide (l10.length ≤ 9223372036854775807)) (br (decide (x1.length ≤ 9223372036854775807)) (br (!decide (l10 = x1)) (some false) (bnd1 (s_works N) fun b12 => some b12)) none) none))
                        (bnd1 (s_works N) fun b13 => some b13)))))
          (bnd2 (s_Decode N x1) fun l14 n15 =>
            br (decide (n15 = 0))
              (bnd2 (s_Encode N l14) fun l16 n17 =>
                br (!decide (n17 = 0)) (some false) (br (decide (l16.length ≤ 9223372036854775807)) (br (decide (x1.length ≤ 9223372036854775807)) (br (!decide (l16 = x1)) (some false) (bnd1 (s_works N) fun b18 => some b18)) none) none))
              (bnd1 (s_works N) fun b19 => some b19))))
noncomputable def cx_lBack (N : Nat) : Cx := { T := T, isPure := tabP [⟨23, e_few (s_few N)⟩, ⟨16, e_works (s_works N)⟩, ⟨24, e_Encode (s_Encode N)⟩, ⟨17, e_Decode (s_Decode N)⟩, ⟨19, e_rSame (s_rSame N N)⟩], pureK := fun g ds K => tabK [⟨23, e_few (s_few N)⟩, ⟨16, e_works (s_works N)⟩, ⟨24, e_Encode (s_Encode N)⟩, ⟨17, e_Decode (s_Decode N)⟩, ⟨19, e_rSame (s_rSame N N)⟩] g ds K, memK := fun g dst ds m K => tabMK [] g dst ds m K, meth := tabM [], keep := fun _ => [], keepX := fun _ => [], loopT := fun _ _ _ _ => none, jumps := 9 }
theorem s_lBack_ok (N : Nat) (x0 : List V) (x1 : List UInt8) : bodyK (cx_lBack N) Try.f6 [.v (.sl 40 x0) .no, .v (.bytes x1) .no] [] r_lBack = s_lBack N x0 x1 := by
  kernel_rfl
theorem go_lBack : Goes Try.prog 6 := goes_of Try.func6 (by kernel_rfl) (c := bodyOf Try.f6) (by kernel_rfl)
theorem eo_lBack (s : List V → List UInt8 → Option (Bool)) (hs : ∀ (x0 : List V) (x1 : List UInt8) (r0 : Bool), s x0 x1 = some r0 → PureRet Try.prog T 6 [.v (.sl 40 x0) .no, .v (.bytes x1) .no] [.v (.bool r0) .no]) : EntOK Try.prog T ⟨6, e_lBack s⟩ := by
  refine ⟨go_lBack, fun R ds K r h => ?_, fun R ds K => ?_⟩
  · simp only [e_lBack] at h
    split at h
    · obtain ⟨r0, h1, h2⟩ := bnd1_some h
      exact ⟨_, h2, hs _ _ _ h1⟩
    · cases h
  · simp only [e_lBack]
    split
    · rw [bnd1_b]; rfl
    · rfl
theorem co_lBack (N : Nat) : CxOK Try.prog (cx_lBack N) :=
  cxOK_of2 (es := [⟨23, e_few (s_few N)⟩, ⟨16, e_works (s_works N)⟩, ⟨24, e_Encode (s_Encode N)⟩, ⟨17, e_Decode (s_Decode N)⟩, ⟨19, e_rSame (s_rSame N N)⟩]) (me := []) (ms := []) T_ok ⟨eo_few _ (p_few N), eo_works _ (p_works N), eo_Encode _ (p_Encode N), eo_Decode _ (p_Decode N), eo_rSame _ (p_rSame N N), trivial⟩ trivial trivial rfl (fun _ _ _ _ => rfl) (fun _ _ _ _ _ _ => rfl) rfl
theorem lo_lBack (N : Nat) : LoopsOK (cx_lBack N) Try.f6.ntmps (bodyOf Try.f6) :=
  loopsOK_of (k := 0) (by kernel_rfl) trivial
theorem p_lBack (N : Nat) (x0 : List V) (x1 : List UInt8) (r0 : Bool) (h : s_lBack N x0 x1 = some r0) : PureRet Try.prog T 6 [.v (.sl 40 x0) .no, .v (.bytes x1) .no] [.v (.bool r0) .no] :=
  pure_of (cx := cx_lBack N) (by kernel_rfl) (co_lBack N) Try.func6 (by kernel_rfl) (by kernel_rfl) (lo_lBack N) rfl rfl rfl (rf := r_lBack) ((s_lBack_ok N x0 x1).trans h) (fun rs' m h => by
    unfold r_lBack at h
    split at h
    · cases h; exact ⟨rfl, rfl⟩
    · cases h)
noncomputable def e_lJoins {R : Type} (s : List V → List V → Option (Bool)) (ds : List D) (K : List D → Option R) : Option R :=
  match ds with
  | [.v (.sl 40 x0) .no, .v (.sl 40 x1) .no] => bnd1 (s x0 x1) fun r0 => K [.v (.bool r0) .no]
  | _ => none
noncomputable def r_lJoins (rs : List D) (_ : Mem) : Option (Bool) :=
  match rs with
  | [.v (.bool r0) _] => some (r0)
  | _ => none
noncomputable def s_lJoins (N : Nat) (x0 : List V) (x1 : List V) : Option (Bool) :=
  bnd1 (s_few N x0) fun b0 =>
  br (!b0) (bnd1 (s_works N) fun b1 => some b1)
    (bnd1 (s_few N x1) fun b2 =>
      br (!b2) (bnd1 (s_works N) fun b3 => some b3)
        (bnd2 (s_Encode N x0) fun l4 n5 =>
          bnd2 (s_Encode N x1) fun l6 n7 =>
            br (!decide (n5 = 0)) (bnd1 (s_works N) fun b8 => some b8)
              (br (!decide (n7 = 0)) (bnd1 (s_works N) fun b9 => some b9)
                (br (decide ((0 + x0.length) * 56 ≤ 140737488355328))
                  (br (decide ((([] ++ x0).length + x1.length) * 56 ≤ 140737488355328))
                    (bnd2 (s_Encode N ([] ++ x0 ++ x1)) fun l10 n11 =>
                      br (decide (4096 < IntKind.i64.wrap ((↑l4.length : Int) + (↑l6.length : Int)))) (br (decide (n11 = 3)) (br (decide ((↑l10.length : Int) = 0)) (bnd1 (s_works N) fun b12 => some b12) (some false)) (some false))
                        (br (decide (n11 = 0))
                          (br (decide (l10.length ≤ 9223372036854775807))
                            (br (decide (l4.length ≤ 9223372036854775807))
                              (br (decide (l6.length ≤ 9223372036854775807)) (br (decide (l4.length + l6.length ≤ 9223372036854775807)) (br (decide (l10 = l4 ++ l6)) (bnd1 (s_works N) fun b13 => some b13) (some false)) none) none) none)
                            none)
                          (some false)))
                    none)
                  none))))
noncomputable def cx_lJoins (N : Nat) : Cx := { T := T, isPure := tabP [⟨23, e_few (s_few N)⟩, ⟨16, e_works (s_works N)⟩, ⟨24, e_Encode (s_Encode N)⟩], pureK := fun g ds K => tabK [⟨23, e_few (s_few N)⟩, ⟨16, e_works (s_works N)⟩, ⟨24, e_Encode (s_Encode N)⟩] g ds K, memK := fun g dst ds m K => tabMK [] g dst ds m K, meth := tabM [], keep := fun _ => [], keepX := fun _ => [], loopT := fun _ _ _ _ => none, jumps := 9 }
theorem s_lJoins_ok (N : Nat) (x0 : List V) (x1 : List V) : bodyK (cx_lJoins N) Try.f7 [.v (.sl 40 x0) .no, .v (.sl 40 x1) .no] [] r_lJoins = s_lJoins N x0 x1 := by
  kernel_rfl
theorem go_lJoins : Goes Try.prog 7 := goes_of Try.func7 (by kernel_rfl) (c := bodyOf Try.f7) (by kernel_rfl)
theorem eo_lJoins (s : List V → List V → Option (Bool)) (hs : ∀ (x0 : List V) (x1 : List V) (r0 : Bool), s x0 x1 = some r0 → PureRet Try.prog T 7 [.v (.sl 40 x0) .no, .v (.sl 40 x1) .no] [.v (.bool r0) .no]) : EntOK Try.prog T ⟨7, e_lJoins s⟩ := by
  refine ⟨go_lJoins, fun R ds K r h => ?_, fun R ds K => ?_⟩
  · simp only [e_lJoins] at h
    split at h
    · obtain ⟨r0, h1, h2⟩ := bnd1_some h
      exact ⟨_, h2, hs _ _ _ h1⟩
    · cases h
  · simp only [e_lJoins]
    split
    · rw [bnd1_b]; rfl
    · rfl
theorem co_lJoins (N : Nat) : CxOK Try.prog (cx_lJoins N) :=
  cxOK_of2 (es := [⟨23, e_few (s_few N)⟩, ⟨16, e_works (s_works N)⟩, ⟨24, e_Encode (s_Encode N)⟩]) (me := []) (ms := []) T_ok ⟨eo_few _ (p_few N), eo_works _ (p_works N), eo_Encode _ (p_Encode N), trivial⟩ trivial trivial rfl (fun _ _ _ _ => rfl) (fun _ _ _ _ _ _ => rfl) rfl
theorem lo_lJoins (N : Nat) : LoopsOK (cx_lJoins N) Try.f7.ntmps (bodyOf Try.f7) :=
  loopsOK_of (k := 0) (by kernel_rfl) trivial
theorem p_lJoins (N : Nat) (x0 : List V) (x1 : List V) (r0 : Bool) (h : s_lJoins N x0 x1 = some r0) : PureRet Try.prog T 7 [.v (.sl 40 x0) .no, .v (.sl 40 x1) .no] [.v (.bool r0) .no] :=
  pure_of (cx := cx_lJoins N) (by kernel_rfl) (co_lJoins N) Try.func7 (by kernel_rfl) (by kernel_rfl) (lo_lJoins N) rfl rfl rfl (rf := r_lJoins) ((s_lJoins_ok N x0 x1).trans h) (fun rs' m h => by
    unfold r_lJoins at h
    split at h
    · cases h; exact ⟨rfl, rfl⟩
    · cases h)
noncomputable def e_lTexts {R : Type} (s : List V → List V → Option (Bool)) (ds : List D) (K : List D → Option R) : Option R :=
  match ds with
  | [.v (.sl 40 x0) .no, .v (.sl 40 x1) .no] => bnd1 (s x0 x1) fun r0 => K [.v (.bool r0) .no]
  | _ => none
noncomputable def r_lTexts (rs : List D) (_ : Mem) : Option (Bool) :=
  match rs with
  | [.v (.bool r0) _] => some (r0)
  | _ => none
noncomputable def s_lTexts (N : Nat) (x0 : List V) (x1 : List V) : Option (Bool) :=
  bnd1 (s_Left N N x0 1500) fun n0 =>
  br (decide (n0 < 0)) (bnd1 (s_works N) fun b1 => some b1)
    (bnd1 (s_Left N N x1 1500) fun n2 =>
      br (decide (n2 < 0)) (bnd1 (s_works N) fun b3 => some b3)
        (bnd2 (s_Encode N x0) fun l4 n5 =>
          bnd2 (s_Encode N x1) fun l6 n7 =>
            br (!decide (n5 = 0))
              (br (decide (n5 = 0)) (br (decide (n7 = 0)) (bnd1 (s_works N) fun b8 => some b8) (bnd1 (s_Text N x1) fun l9 => br (decide (l9 = [])) (bnd1 (s_works N) fun b10 => some b10) (some false)))
                (bnd1 (s_Text N x0) fun l11 =>
                  br (decide (l11 = [])) (br (decide (n7 = 0)) (bnd1 (s_works N) fun b12 => some b12) (bnd1 (s_Text N x1) fun l13 => br (decide (l13 = [])) (bnd1 (s_works N) fun b14 => some b14) (some false))) none))
              (br (!decide (n7 = 0))
                (br (decide (n5 = 0)) (br (decide (n7 = 0)) (bnd1 (s_works N) fun b15 => some b15) (bnd1 (s_Text N x1) fun l16 => br (decide (l16 = [])) (bnd1 (s_works N) fun b17 => some b17) (some false)))
                  (bnd1 (s_Text N x0) fun l18 =>
                    br (decide (l18 = [])) (br (decide (n7 = 0)) (bnd1 (s_works N) fun b19 => some b19) (bnd1 (s_Text N x1) fun l20 => br (decide (l20 = [])) (bnd1 (s_works N) fun b21 => some b21) (some false))) none))
                (bnd1 (s_Text N x0) fun l22 => bnd1 (s_Text N x1) fun l23 => bnd1 (s_rSame N N x0 x1) fun b24 => br (decide (l22 = l23) == b24) (bnd1 (s_works N) fun b25 => some b25) (some false)))))
noncomputable def cx_lTexts (N : Nat) : Cx := { T := T, isPure := tabP [⟨20, e_Left (s_Left N N)⟩, ⟨16, e_works (s_works N)⟩, ⟨24, e_Encode (s_Encode N)⟩, ⟨21, e_Text (s_Text N)⟩, ⟨19, e_rSame (s_rSame N N)⟩], pureK := fun g ds K => tabK [⟨20, e_Left (s_Left N N)⟩, ⟨16, e_works (s_works N)⟩, ⟨24, e_Encode (s_Encode N)⟩, ⟨21, e_Text (s_Text N)⟩, ⟨19, e_rSame (s_rSame N N)⟩] g ds K, memK := fun g dst ds m K => tabMK [] g dst ds m K, meth := tabM [], keep := fun _ => [], keepX := fun _ => [], loopT := fun _ _ _ _ => none, jumps := 9 }
theorem s_lTexts_ok (N : Nat) (x0 : List V) (x1 : List V) : bodyK (cx_lTexts N) Try.f8 [.v (.sl 40 x0) .no, .v (.sl 40 x1) .no] [] r_lTexts = s_lTexts N x0 x1 := by
  kernel_rfl
theorem go_lTexts : Goes Try.prog 8 := goes_of Try.func8 (by kernel_rfl) (c := bodyOf Try.f8) (by kernel_rfl)
theorem eo_lTexts (s : List V → List V → Option (Bool)) (hs : ∀ (x0 : List V) (x1 : List V) (r0 : Bool), s x0 x1 = some r0 → PureRet Try.prog T 8 [.v (.sl 40 x0) .no, .v (.sl 40 x1) .no] [.v (.bool r0) .no]) : EntOK Try.prog T ⟨8, e_lTexts s⟩ := by
  refine ⟨go_lTexts, fun R ds K r h => ?_, fun R ds K => ?_⟩
  · simp only [e_lTexts] at h
    split at h
    · obtain ⟨r0, h1, h2⟩ := bnd1_some h
      exact ⟨_, h2, hs _ _ _ h1⟩
    · cases h
  · simp only [e_lTexts]
    split
    · rw [bnd1_b]; rfl
    · rfl
theorem co_lTexts (N : Nat) : CxOK Try.prog (cx_lTexts N) :=
  cxOK_of2 (es := [⟨20, e_Left (s_Left N N)⟩, ⟨16, e_works (s_works N)⟩, ⟨24, e_Encode (s_Encode N)⟩, ⟨21, e_Text (s_Text N)⟩, ⟨19, e_rSame (s_rSame N N)⟩]) (me := []) (ms := []) T_ok ⟨eo_Left _ (p_Left N N), eo_works _ (p_works N), eo_Encode _ (p_Encode N), eo_Text _ (p_Text N), eo_rSame _ (p_rSame N N), trivial⟩ trivial trivial rfl (fun _ _ _ _ => rfl) (fun _ _ _ _ _ _ => rfl) rfl
theorem lo_lTexts (N : Nat) : LoopsOK (cx_lTexts N) Try.f8.ntmps (bodyOf Try.f8) :=
  loopsOK_of (k := 0) (by kernel_rfl) trivial
theorem p_lTexts (N : Nat) (x0 : List V) (x1 : List V) (r0 : Bool) (h : s_lTexts N x0 x1 = some r0) : PureRet Try.prog T 8 [.v (.sl 40 x0) .no, .v (.sl 40 x1) .no] [.v (.bool r0) .no] :=
  pure_of (cx := cx_lTexts N) (by kernel_rfl) (co_lTexts N) Try.func8 (by kernel_rfl) (by kernel_rfl) (lo_lTexts N) rfl rfl rfl (rf := r_lTexts) ((s_lTexts_ok N x0 x1).trans h) (fun rs' m h => by
    unfold r_lTexts at h
    split at h
    · cases h; exact ⟨rfl, rfl⟩
    · cases h)
end Go.Proofs.Ytdiieghcakhkdaa.En

/- The printed functions, together. -/

/- Words for the plain laws: branches, numbers, bits, places in a list. No program in sight. -/
namespace Go.Proofs.Ytdiieghcakhkdaa.En
open Go
set_option linter.unusedVariables false
section
variable {R α β γ δ : Type}
theorem br_t (x y : Option R) : br true x y = x := rfl
theorem br_f (x y : Option R) : br false x y = y := rfl
theorem br_dec (p : Prop) [Decidable p] (x y : Option R) : br (decide p) x y = if p then x else y := by
  by_cases h : p <;> simp [br, h]
theorem br_not (c : Bool) (x y : Option R) : br (!c) x y = br c y x := by cases c <;> rfl
theorem br_and (a b : Bool) (x y : Option R) : br (a && b) x y = br a (br b x y) y := by cases a <;> rfl
theorem br_or (a b : Bool) (x y : Option R) : br (a || b) x y = br a x (br b x y) := by cases a <;> rfl
theorem bnd1_mk (a : α) (K : α → Option R) : bnd1 (some a) K = K a := rfl
theorem bnd2_mk (a : α) (b : β) (K : α → β → Option R) : bnd2 (some (a, b)) K = K a b := rfl
theorem bnd3_mk (a : α) (b : β) (c : γ) (K : α → β → γ → Option R) : bnd3 (some (a, b, c)) K = K a b c := rfl
theorem bnd4_mk (a : α) (b : β) (c : γ) (d : δ) (K : α → β → γ → δ → Option R) : bnd4 (some (a, b, c, d)) K = K a b c d := rfl
theorem at_of {xs : List α} {i : Nat} {x : α} (h : xs[i]? = some x) (K : α → Option R) : at? xs i K = K x := by simp [at?, h]
theorem at_zero (x : α) (r : List α) (K : α → Option R) : at? (x :: r) 0 K = K x := rfl
theorem at_succ (x : α) (r : List α) (i : Nat) (K : α → Option R) : at? (x :: r) (i + 1) K = at? r i K := by simp [at?]
theorem at_mid (pre : List α) (x : α) (suf : List α) (K : α → Option R) : at? (pre ++ x :: suf) pre.length K = K x := at_of (by simp) K
theorem unInt_mk (k : IntKind) (n : Int) (K : Int → Option R) : V.unInt k (.int k n) K = K n := by simp [V.unInt]
theorem unBool_mk (b : Bool) (K : Bool → Option R) : V.unBool (.bool b) K = K b := rfl
theorem unStr_mk (s : List UInt8) (K : List UInt8 → Option R) : V.unStr (.str s) K = K s := rfl
theorem unBytes_mk (s : List UInt8) (K : List UInt8 → Option R) : V.unBytes (.bytes s) K = K s := rfl
theorem unSl_mk (e : TypeId) (s : List V) (K : List V → Option R) : V.unSl e (.sl e s) K = K s := by simp [V.unSl]
theorem unAgg_mk (s : List V) (K : List V → Option R) : V.unAgg (.agg s) K = K s := rfl
theorem unCons_mk (x : V) (r : List V) (K : V → List V → Option R) : unCons (x :: r) K = K x r := rfl
theorem unNil_mk (K : Option R) : unNil [] K = K := rfl
end
/-! Numbers -/
theorem w64 {n : Int} (h1 : -9223372036854775808 ≤ n) (h2 : n ≤ 9223372036854775807) : IntKind.i64.wrap n = n := by
  rw [IntKind.wrap_i64]; omega
theorem w64_u8 (u : UInt8) : IntKind.i64.wrap (u.toNat : Int) = u.toNat := by
  have := u.toNat_lt; exact w64 (by omega) (by omega)
theorem u8_lt (u : UInt8) : (u.toNat : Int) < 256 := by have := u.toNat_lt; omega
theorem wu8 (n : Int) : IntKind.u8.wrap n = n % 256 := IntKind.wrap_u8 n
theorem ofInt_toNat64 (a : Int) : (BitVec.ofInt 64 a).toNat = (a % 18446744073709551616).toNat := by
  rw [BitVec.toNat_ofInt]; rfl
theorem fdiv_pos (a b : Int) (h : 0 < b) : a.fdiv b = a / b := by rw [Int.fdiv_eq_ediv_of_nonneg _ (by omega)]
theorem shr8 (a : Int) : shrI .i64 a 8 = a / 256 := by
  show a.fdiv (2 ^ (min (8 : Int).toNat 64)) = _
  exact fdiv_pos a 256 (by omega)
/-- a & (2^k - 1) -/
theorem and_mask (a : Int) (k : Nat) (hk : k ≤ 62) : bitsI .and .i64 a ((2 ^ k - 1 : Nat) : Int) = a % (2 ^ k : Nat) := by
  have hp : (2 ^ k : Nat) ≤ 2 ^ 62 := Nat.pow_le_pow_right (by omega) hk
  have h0 : 0 < 2 ^ k := Nat.pos_of_ne_zero (by simp)
  have e1 : (BitVec.ofInt 64 ((2 ^ k - 1 : Nat) : Int)).toNat = 2 ^ k - 1 := by
    rw [ofInt_toNat64]; omega
  have e2 : (BitVec.ofInt 64 a &&& BitVec.ofInt 64 ((2 ^ k - 1 : Nat) : Int)).toNat = (a % 18446744073709551616).toNat % 2 ^ k := by
    rw [BitVec.toNat_and, e1, ofInt_toNat64, Nat.and_two_pow_sub_one_eq_mod]
  have hd : (2 ^ k : Nat) ∣ 18446744073709551616 := by
    have : (18446744073709551616 : Nat) = 2 ^ 64 := by decide
    rw [this]; exact Nat.pow_dvd_pow 2 (by omega)
  have e3 : ((((a % 18446744073709551616).toNat % 2 ^ k : Nat)) : Int) = a % (2 ^ k : Nat) := by
    rw [Int.natCast_emod]
    rw [Int.toNat_of_nonneg (Int.emod_nonneg _ (by omega))]
    have hd' : ((2 ^ k : Nat) : Int) ∣ ((18446744073709551616 : Nat) : Int) := Int.natCast_dvd_natCast.2 hd
    exact Int.emod_emod_of_dvd a hd'
  show IntKind.i64.wrap ((BitVec.ofInt 64 a &&& BitVec.ofInt 64 _).toNat : Int) = _
  rw [e2, e3]
  have := Int.emod_nonneg a (b := ((2 ^ k : Nat) : Int)) (by omega)
  have := Int.emod_lt_of_pos a (b := ((2 ^ k : Nat) : Int)) (by omega)
  exact w64 (by omega) (by omega)
theorem and31 (a : Int) : bitsI .and .i64 a 31 = a % 32 := and_mask a 5 (by omega)
theorem and255 (a : Int) : bitsI .and .i64 a 255 = a % 256 := and_mask a 8 (by omega)
theorem and_two_pow' (m k : Nat) : m &&& 2 ^ k = 2 ^ k * (m / 2 ^ k % 2) := by
  apply Nat.eq_of_testBit_eq
  intro i
  rw [Nat.testBit_and, Nat.testBit_two_pow, Nat.mul_comm, ← Nat.shiftLeft_eq, Nat.testBit_shiftLeft]
  have h2 : m / 2 ^ k % 2 = (m.testBit k).toNat := by
    rw [Nat.testBit_eq_decide_div_mod_eq]
    have : m / 2 ^ k % 2 < 2 := Nat.mod_lt _ (by omega)
    rcases (by omega : m / 2 ^ k % 2 = 0 ∨ m / 2 ^ k % 2 = 1) with h | h <;> simp [h]
  rw [h2]
  by_cases hk : k = i
  · subst hk; cases m.testBit k <;> simp
  · simp only [hk, decide_false, Bool.and_false]
    by_cases hl : k ≤ i
    · obtain ⟨j, rfl⟩ : ∃ j, i = k + (j + 1) := ⟨i - k - 1, by omega⟩
      rw [show k + (j + 1) - k = j + 1 by omega]
      cases m.testBit k <;> simp [Nat.testBit_succ]
    · simp [hl]
/-- a & 2^k -/
theorem and_bit (a : Int) (k : Nat) (hk : k ≤ 62) : bitsI .and .i64 a ((2 ^ k : Nat) : Int) = (2 ^ k : Nat) * (a / (2 ^ k : Nat) % 2) := by
  have hp : (2 ^ k : Nat) ≤ 2 ^ 62 := Nat.pow_le_pow_right (by omega) hk
  have h0 : 0 < 2 ^ k := Nat.pos_of_ne_zero (by simp)
  have e1 : (BitVec.ofInt 64 ((2 ^ k : Nat) : Int)).toNat = 2 ^ k := by rw [ofInt_toNat64]; omega
  generalize hm : (a % 18446744073709551616).toNat = m
  have e2 : (BitVec.ofInt 64 a &&& BitVec.ofInt 64 ((2 ^ k : Nat) : Int)).toNat = 2 ^ k * (m / 2 ^ k % 2) := by
    rw [BitVec.toNat_and, e1, ofInt_toNat64, hm, and_two_pow']
  have hd : (2 ^ (k + 1) : Nat) ∣ 18446744073709551616 := by
    have : (18446744073709551616 : Nat) = 2 ^ 64 := by decide
    rw [this]; exact Nat.pow_dvd_pow 2 (by omega)
  have e3 : ((m / 2 ^ k % 2 : Nat) : Int) = a / (2 ^ k : Nat) % 2 := by
    have hmi : (m : Int) = a % 18446744073709551616 := by rw [← hm, Int.toNat_of_nonneg (Int.emod_nonneg _ (by omega))]
    obtain ⟨q, hq⟩ := hd
    have hq' : (18446744073709551616 : Int) = ((2 ^ k : Nat) : Int) * (2 * (q : Int)) := by
      have : (18446744073709551616 : Nat) = 2 ^ k * (2 * q) := by rw [hq, Nat.pow_succ, Nat.mul_assoc]
      rw [show (18446744073709551616 : Int) = ((18446744073709551616 : Nat) : Int) by rfl, this]; push_cast; rfl
    rw [Int.natCast_emod, Int.natCast_ediv, hmi]
    have ha := Int.emod_add_mul_ediv a 18446744073709551616
    generalize a / 18446744073709551616 = z at ha
    have e : a = a % 18446744073709551616 + ((2 ^ k : Nat) : Int) * (2 * (q : Int) * z) := by
      rw [← Int.mul_assoc, ← hq']; omega
    conv => rhs; rw [e]
    rw [Int.add_mul_ediv_left _ _ (by omega)]
    rw [show (2 : Int) * (q : Int) * z = (q * z) * 2 by rw [Int.mul_assoc, Int.mul_comm]]
    exact (Int.add_mul_emod_self_right _ _ _).symm
  show IntKind.i64.wrap ((BitVec.ofInt 64 a &&& BitVec.ofInt 64 _).toNat : Int) = _
  rw [e2]
  have h2 : ((2 ^ k * (m / 2 ^ k % 2) : Nat) : Int) = (2 ^ k : Nat) * (a / (2 ^ k : Nat) % 2) := by rw [Int.natCast_mul, e3]
  rw [h2]
  have : a / ((2 ^ k : Nat) : Int) % 2 = 0 ∨ a / ((2 ^ k : Nat) : Int) % 2 = 1 := by omega
  rcases this with h | h <;> rw [h] <;> exact w64 (by omega) (by omega)
theorem and32 (a : Int) : bitsI .and .i64 a 32 = 32 * (a / 32 % 2) := and_bit a 5 (by omega)
/-- a << 8 | b -/
theorem shl8_or (a b : Int) (h1 : 0 ≤ a) (h2 : a < 36028797018963968) (h3 : 0 ≤ b) (h4 : b < 256) : bitsI .or .i64 (shlI .i64 a 8) b = 256 * a + b := by
  have e0 : shlI .i64 a 8 = 256 * a := by
    show IntKind.i64.wrap (a * 2 ^ (min (8 : Int).toNat 64)) = _
    rw [show (2 : Int) ^ (min (8 : Int).toNat 64) = 256 from rfl, w64 (by omega) (by omega)]; omega
  obtain ⟨x, rfl⟩ := Int.eq_ofNat_of_zero_le h1
  obtain ⟨y, rfl⟩ := Int.eq_ofNat_of_zero_le h3
  have e1 : (BitVec.ofInt 64 (256 * (x : Int))).toNat = x <<< 8 := by
    rw [ofInt_toNat64, Nat.shiftLeft_eq]; omega
  have e2 : (BitVec.ofInt 64 (y : Int)).toNat = y := by rw [ofInt_toNat64]; omega
  rw [e0]
  show IntKind.i64.wrap ((BitVec.ofInt 64 (256 * (x : Int)) ||| BitVec.ofInt 64 (y : Int)).toNat : Int) = _
  rw [BitVec.toNat_or, e1, e2, ← Nat.shiftLeft_add_eq_or_of_lt (by omega), Nat.shiftLeft_eq]
  rw [w64 (by omega) (by omega)]; omega
theorem or0 (b : Int) (h3 : 0 ≤ b) (h4 : b < 256) : bitsI .or .i64 0 b = b := by
  have := shl8_or 0 b (by omega) (by omega) h3 h4
  have e : shlI .i64 0 8 = 0 := by decide
  rw [e] at this; omega
theorem ofNat_toNat (u : UInt8) : UInt8.ofNat u.toNat = u := UInt8.ofNat_toNat
end Go.Proofs.Ytdiieghcakhkdaa.En

/- The engine, part 2r: what an argument that came in reads as. No program in sight. -/
namespace Go.Proofs.Ytdiieghcakhkdaa.En
open Go Go.RowKit
set_option linter.unusedVariables false
/-- A world of arguments: nothing is written. -/
def immG (T : TypeId → Option Ty) : G := { Γ := fun _ => .imm, J := fun _ _ => 0, sz := sizes T }
theorem stable_imm (T : TypeId → Option Ty) (b o : Nat) : Stable (immG T) b o := trivial
/-- An element, given its cells. -/
def mkEl (row : Bool) (cs : List V) : V := match row with | true => .agg cs | false => cs.headD .nilI
/-- Cells that have the shape of a type. -/
def FitsFs (F : TypeId → List V → Prop) : List Field → List V → Prop
  | [], xs => xs = []
  | f :: fs, xs => ∃ a r, xs = a ++ r ∧ F f.type a ∧ FitsFs F fs r
def Fits (T : TypeId → Option Ty) : Nat → TypeId → List V → Prop
  | 0, _, _ => False
  | n + 1, t, xs => match T t with
    | none => False
    | some ty => match ty.desc with
      | .bool => ∃ b, xs = [.bool b]
      | .int k => ∃ i, xs = [.int k i] ∧ k.min ≤ i ∧ i ≤ k.max
      | .string => ∃ s, xs = [.str s] ∧ s.length ≤ maxLen
      | .slice e => match ty.cks with
        | [.bytes _] => ∃ s, xs = [.bytes s] ∧ s.length ≤ maxLen
        | [.slc e'] => e' = e ∧ ∃ ys, xs = [.sl e ys] ∧ ys.length ≤ maxLen ∧ ∀ y ∈ ys, ∃ te cs, T e = some te ∧ y = mkEl te.row cs ∧ Fits T n e cs
        | _ => False
      | .struct fs => FitsFs (Fits T n) fs.toList xs
      | _ => False
/-- Fields lie one behind the other. -/
def contig (T : TypeId → Option Ty) (n : Nat) : Nat → List Field → Bool
  | off, [] => Nat.beq off n
  | off, f :: fs => Nat.beq f.offset off && contig T n (off + sizes T f.type) fs
/-- A type that is read. -/
def readable (T : TypeId → Option Ty) (t : TypeId) : Bool :=
  match T t with
  | none => false
  | some ty => match ty.desc with
    | .bool => true
    | .int _ => true
    | .string => true
    | .slice e => (match T e with
      | none => false
      | some te => (match ty.cks with
        | [.bytes _] => (match te.desc with | .int .u8 => Nat.beq te.size 1 | _ => false)
        | [.slc e'] => Nat.beq e' e && Nat.ble 1 te.size && (match te.row with | true => true | false => Nat.beq te.size 1)
        | _ => false))
    | .struct fs => contig T ty.size 0 fs.toList && fs.toList.all (fun f => match T f.type with | some _ => true | none => false)
    | _ => false
/-- The types that a type leads to. -/
def closedT (T : TypeId → Option Ty) (l : List TypeId) : Bool :=
  l.all fun t => readable T t && (match T t with
    | none => false
    | some ty => match ty.desc with
      | .slice e => l.any (Nat.beq e)
      | .struct fs => fs.toList.all fun f => l.any (Nat.beq f.type)
      | _ => true)
section
variable {H : Type} {enc : TypeId × Value → H} {P : Program} {T : TypeId → Option Ty} {w : World} {base : Nat} {spare : Nat → Bool} {held : Bool}
structure RepC (T : TypeId → Option Ty) (w : World) (xs : List V) (cs : List Value) : Prop where
  len : xs.length = cs.length
  one : ∀ x ∈ xs, x.one = true
  rep : ∀ (k : Nat) y, xs[k]? = some y → RepV (immG T) w y (cs.getD k undef)
theorem RepC.single {x : V} {v : Value} (h1 : x.one = true) (h : RepV (immG T) w x v) : RepC T w [x] [v] :=
  ⟨rfl, fun y hy => by simp at hy; subst hy; exact h1, fun k y hk => by
    rcases k with _ | k
    · simp at hk; subst hk; simpa using h
    · simp at hk⟩
theorem RepC.append {xs ys : List V} {cs ds : List Value} (h : RepC T w xs cs) (k : RepC T w ys ds) : RepC T w (xs ++ ys) (cs ++ ds) := by
  refine ⟨by simp [h.len, k.len], fun x hx => ?_, fun i y hy => ?_⟩
  · rcases List.mem_append.1 hx with hx | hx
    · exact h.one x hx
    · exact k.one x hx
  · rcases Nat.lt_or_ge i xs.length with hl | hl
    · rw [List.getElem?_append_left hl] at hy
      have := h.rep i y hy
      rw [List.getD_eq_getElem?_getD, List.getElem?_append_left (by rw [← h.len]; exact hl), ← List.getD_eq_getElem?_getD]
      exact this
    · rw [List.getElem?_append_right hl] at hy
      have := k.rep _ y hy
      rw [List.getD_eq_getElem?_getD, List.getElem?_append_right (by rw [← h.len]; exact hl), ← h.len, ← List.getD_eq_getElem?_getD]
      exact this
theorem cellsOf_eq (hT : TypesOK P T) {t : TypeId} {ty : Ty} (h : T t = some ty) : P.cellsOf t = ty.size := by
  obtain ⟨i, h1, _, h2, _⟩ := (hT t ty h).info
  simp [Program.cellsOf, h1, h2]
theorem sizes_eq {t : TypeId} {ty : Ty} (h : T t = some ty) : sizes T t = ty.size := by unfold sizes; rw [h]
theorem add_none (b off i : Nat) : (⟨b, off, none⟩ : Addr).add i = ⟨b, off + i, none⟩ := by
  unfold Addr.add
  by_cases h0 : i = 0
  · subst h0; rfl
  · rw [if_neg h0]
theorem spot_row {a : Addr} {n k : Nat} {cs : List Value} (h : w.cells? base (a.add (0 * n)) k = some cs) (hk : 0 < k) : a.spot = none := by
  obtain ⟨_, hl, h5⟩ := World.cells?_some h
  have h6 := h5 0 hk
  rw [List.getElem?_eq_getElem (by omega)] at h6
  have := World.cell?_spot h6
  simpa [Addr.add] using this
theorem mkEl_cells {row : Bool} {cs : List V} (ho : ∀ x ∈ cs, x.one = true) (h : row = false → cs.length = 1) : (mkEl row cs).cells = cs := by
  cases row with
  | true => rfl
  | false =>
    have := h rfl
    match cs, this with
    | [x], _ =>
      have := ho x (by simp)
      show V.cells x = [x]
      cases x <;> first | rfl | cases this
theorem okEl_mk {row : Bool} {cs : List V} {n : Nat} (hl : cs.length = n) (ho : ∀ x ∈ cs, x.one = true) (h : row = false → cs.length = 1) : okEl n (mkEl row cs) = true := by
  unfold okEl
  rw [mkEl_cells ho h]
  simp only [Bool.and_eq_true, beq_iff_eq, List.all_eq_true]
  exact ⟨hl, ho⟩
theorem flatT_get {α : Type} {n : Nat} : ∀ (l : List (List α)) (i j : Nat) (c : List α), (∀ c ∈ l, c.length = n) → l[i]? = some c → j < n → l.flatten[i * n + j]? = c[j]?
  | [], i, j, c, _, h, _ => by simp at h
  | d :: l, 0, j, c, hl, h, hj => by
    simp at h; subst h
    have := hl d (by simp)
    rw [List.flatten_cons, Nat.zero_mul, Nat.zero_add, List.getElem?_append_left (by omega)]
  | d :: l, i + 1, j, c, hl, h, hj => by
    have hd := hl d (by simp)
    rw [List.flatten_cons, Nat.succ_mul, List.getElem?_append_right (by omega)]
    rw [show i * n + n + j - d.length = i * n + j by omega]
    exact flatT_get l i j c (fun c hc => hl c (by simp [hc])) (by simpa using h) hj
theorem flatT_len {α : Type} {n : Nat} : ∀ (l : List (List α)), (∀ c ∈ l, c.length = n) → l.flatten.length = l.length * n
  | [], _ => by simp
  | d :: l, h => by
    rw [List.flatten_cons, List.length_append, h d (by simp), flatT_len l fun c hc => h c (by simp [hc]), List.length_cons, Nat.succ_mul]; omega
theorem choose_list {α : Type} {p : Nat → α → Prop} : ∀ (n : Nat), (∀ i, i < n → ∃ a, p i a) → ∃ l : List α, l.length = n ∧ ∀ (i : Nat) a, l[i]? = some a → p i a
  | 0, _ => ⟨[], rfl, fun i a h => by simp at h⟩
  | n + 1, h => by
    obtain ⟨l, h1, h2⟩ := choose_list n fun i hi => h i (by omega)
    obtain ⟨a, ha⟩ := h n (by omega)
    refine ⟨l ++ [a], by simp [h1], fun i b hb => ?_⟩
    rcases Nat.lt_or_ge i l.length with hl | hl
    · rw [List.getElem?_append_left hl] at hb; exact h2 i b hb
    · rw [List.getElem?_append_right hl] at hb
      have : i = n := by
        have := (List.getElem?_eq_some_iff.1 hb).1
        simp at this; omega
      subst this
      rw [h1] at hb
      simp at hb
      subst hb; exact ha
theorem trod_rep (hT : TypesOK P T) {l : List TypeId} (hl : closedT T l = true) : ∀ (fuel : Nat) (t : TypeId) (cs : List Value) (x : DataW H × List MemPlace), t ∈ l → DataW.trod enc P w base spare held fuel t cs = some x →
    ∃ xs, RepC T w xs cs ∧ Fits T fuel t xs ∧ ∀ ty, T t = some ty → cs.length = ty.size
  | 0, t, cs, x, _, h => by simp [DataW.trod] at h
  | n + 1, t, cs, x, hm, h => by
    have hcl := List.all_eq_true.1 hl t hm
    simp only [Bool.and_eq_true] at hcl
    obtain ⟨hre, hlead⟩ := hcl
    unfold Fits
    unfold readable at hre
    cases hTt : T t with
    | none => rw [hTt] at hre; simp at hre
    | some ty =>
    rw [hTt] at hre hlead
    simp only at hre hlead ⊢
    have hd := (hT t ty hTt).desc
    have h1c : ty.row = false → ty.size = 1 := (hT t ty hTt).one
    cases hdesc : ty.desc <;> rw [hdesc] at hre hlead hd <;> simp only [Bool.false_eq_true] at hre hlead ⊢
    · obtain ⟨b, rfl, _⟩ := DataW.trod_bool hd h
      exact ⟨[.bool b], .single rfl (.bool b), ⟨b, rfl⟩, fun ty' e => by cases e; rw [h1c (by simp [Ty.row, hdesc])]; rfl⟩
    · rename_i k
      obtain ⟨i, rfl, _, hwf⟩ := DataW.trod_int hd h
      have hb : k.min ≤ i ∧ i ≤ k.max := by simpa [Lit.wf] using hwf
      exact ⟨[.int k i], .single rfl (.int k i hb), ⟨i, rfl, hb⟩, fun ty' e => by cases e; rw [h1c (by simp [Ty.row, hdesc])]; rfl⟩
    · obtain ⟨s, rfl, _, hs⟩ := DataW.trod_string hd h
      have e : s = ⟨s.data.toList.toArray⟩ := by cases s; simp
      have hsl : s.data.toList.length = s.size := by cases s; rfl
      refine ⟨[.str s.data.toList], .single rfl ?_, ⟨_, rfl, by rw [hsl]; exact hs⟩, fun ty' e => by cases e; rw [h1c (by simp [Ty.row, hdesc])]; rfl⟩
      have := RepV.str (g := immG T) (w := w) s.data.toList (by rw [hsl]; unfold maxLen at hs; omega)
      rwa [← e] at this
    · rename_i e
      cases hTe : T e with
      | none => rw [hTe] at hre; simp at hre
      | some te =>
      rw [hTe] at hre
      simp only at hre
      have hsz := cellsOf_eq hT hTe
      have hmem : e ∈ l := by
        obtain ⟨z, hz, hb⟩ := List.any_eq_true.1 hlead
        have := Nat.eq_of_beq_eq_true hb
        subst this; exact hz
      have hsize : ∀ ty', some ty = some ty' → ∀ v : Value, [v].length = ty'.size := fun ty' e v => by cases e; rw [h1c (by simp [Ty.row, hdesc])]; rfl
      split at hre
      · rename_i e0 hcks
        split at hre
        · rename_i hte
          have hte1 := Nat.eq_of_beq_eq_true hre
          rw [hte1] at hsz
          have hde := (hT e te hTe).desc
          rw [hte] at hde
          rcases DataW.trod_slice hd h with ⟨rfl, _⟩ | ⟨a, len, cap, elems, rest, m, e1, rfl, _, hb, hlc, hcm, hel, hget, _, _⟩
          · exact ⟨[.bytes []], .single rfl (.bytes [] none 0 0 rfl (Nat.le_refl _) (by simp) (fun k x hx => by simp at hx)), ⟨[], rfl, by simp⟩, fun ty' e => hsize ty' e _⟩
          · have key : ∀ i, i < len → ∃ b : UInt8, ∃ bb off, a = ⟨bb, off, none⟩ ∧ w.cell? ⟨bb, off + i, none⟩ = some (.int .u8 (b.toNat : Int)) := by
              intro i hi
              have h2 := hget i hi
              rw [List.getElem?_eq_getElem (by rw [hel]; exact hi), Option.bind_eq_some_iff] at h2
              obtain ⟨cs, h3, h4⟩ := h2
              obtain ⟨z, rfl, _, hwf⟩ := DataW.trod_int hde h4
              rw [hsz, Nat.mul_one] at h3
              obtain ⟨_, _, h5⟩ := World.cells?_some h3
              have h6 := h5 0 (by omega)
              simp at h6
              have hzr : 0 ≤ z ∧ z ≤ 255 := by simpa [Lit.wf, IntKind.min, IntKind.max, IntKind.signed, IntKind.bits] using hwf
              have hspn : a.spot = none := by
                have h2 := hget 0 (by omega)
                rw [List.getElem?_eq_getElem (by omega), Option.bind_eq_some_iff] at h2
                obtain ⟨cs, h3, _⟩ := h2
                exact spot_row h3 (by omega)
              obtain ⟨bb, off, sp⟩ := a
              simp only at hspn
              subst hspn
              refine ⟨UInt8.ofNat z.toNat, bb, off, rfl, ?_⟩
              rw [add_none] at h6
              have hz2 : (off + i + 0) = off + i := rfl
              rw [show ((UInt8.ofNat z.toNat).toNat : Int) = z by rw [UInt8.toNat_ofNat', Nat.mod_eq_of_lt (by omega)]; omega]
              simpa [Addr.add] using h6
            obtain ⟨bs, b1, b2⟩ := choose_list len key
            refine ⟨[.bytes bs], .single rfl (.bytes bs (some a) len cap b1 hlc hcm fun k x hx => ?_), ⟨bs, rfl, by omega⟩, fun ty' e => hsize ty' e _⟩
            obtain ⟨bb, off, c1, c2⟩ := b2 k x hx
            exact ⟨bb, off, by rw [c1], stable_imm T _ _, c2⟩
        · cases hre
      · rename_i e0 hcks
        simp only [Bool.and_eq_true] at hre
        obtain ⟨⟨he0, hte1⟩, hrow⟩ := hre
        have he0 := Nat.eq_of_beq_eq_true he0
        have hte1 := Nat.le_of_ble_eq_true hte1
        have hrow1 : te.row = false → te.size = 1 := (hT e te hTe).one
        have hszs : (immG T).sz e = te.size := sizes_eq hTe
        rcases DataW.trod_slice hd h with ⟨rfl, _⟩ | ⟨a, len, cap, elems, rest, m, e1, rfl, _, hb, hlc, hcm, hel, hget, _, _⟩
        · exact ⟨[.sl e []], .single rfl (.sl e [] none 0 0 (fun _ => undef) rfl (Nat.le_refl _) (by simp) (by simp) (fun k y hy => by simp at hy) (fun k y hy => by simp at hy)), ⟨he0, [], rfl, by simp, by simp⟩, fun ty' e => hsize ty' e _⟩
        · obtain rfl : n = m := by omega
          have key : ∀ i, i < len → ∃ p : List V × List Value, RepC T w p.1 p.2 ∧ Fits T n e p.1 ∧ p.2.length = te.size ∧ ∃ bb off, a = ⟨bb, off, none⟩ ∧ ∀ j, j < te.size → w.cell? ⟨bb, off + (i * te.size + j), none⟩ = some (p.2.getD j undef) := by
            intro i hi
            have h2 := hget i hi
            rw [List.getElem?_eq_getElem (by rw [hel]; exact hi), Option.bind_eq_some_iff] at h2
            obtain ⟨cs, h3, h4⟩ := h2
            obtain ⟨xs, c1, c2, c3⟩ := trod_rep hT hl n e cs _ hmem h4
            have c3 := c3 te hTe
            rw [hsz] at h3
            obtain ⟨_, _, h5⟩ := World.cells?_some h3
            have hspn : a.spot = none := by
              have h2 := hget 0 (by omega)
              rw [List.getElem?_eq_getElem (by omega), Option.bind_eq_some_iff] at h2
              obtain ⟨cs, h3, _⟩ := h2
              exact spot_row h3 (by omega)
            obtain ⟨bb, off, sp⟩ := a
            simp only at hspn
            subst hspn
            refine ⟨(xs, cs), c1, c2, c3, bb, off, rfl, fun j hj => ?_⟩
            have h7 := h5 j hj
            rw [add_none, add_none, Nat.add_assoc] at h7
            rw [h7, List.getD_eq_getElem?_getD]
            show cs[j]? = some (cs[j]?.getD undef)
            rw [List.getElem?_eq_getElem (by omega)]; rfl
          obtain ⟨ps, b1, b2⟩ := choose_list len key
          have hxl : ∀ p ∈ ps, p.1.length = te.size ∧ ∀ x ∈ p.1, x.one = true := by
            intro p hp
            obtain ⟨i, hi⟩ := List.getElem?_of_mem hp
            obtain ⟨c1, _, c3, _⟩ := b2 i p hi
            exact ⟨by rw [c1.len, c3], c1.one⟩
          have hcells : ∀ p ∈ ps, (mkEl te.row p.1).cells = p.1 := fun p hp => mkEl_cells (hxl p hp).2 fun hr => by rw [(hxl p hp).1, hrow1 hr]
          have hflat : (ps.map fun p => mkEl te.row p.1).flatMap V.cells = (ps.map (·.1)).flatten := by
            rw [List.flatMap_def, List.map_map]
            congr 1
            exact List.map_congr_left fun p hp => hcells p hp
          have hall : ∀ c ∈ ps.map (·.1), c.length = te.size := fun c hc => by
            obtain ⟨p, hp, rfl⟩ := List.mem_map.1 hc
            exact (hxl p hp).1
          have hlook : ∀ (k : Nat) (y : V), ((ps.map fun p => mkEl te.row p.1).flatMap V.cells)[k]? = some y → ∃ i j p, k = i * te.size + j ∧ j < te.size ∧ ps[i]? = some p ∧ p.1[j]? = some y := by
            intro k y hk
            rw [hflat] at hk
            have hk1 := (List.getElem?_eq_some_iff.1 hk).1
            rw [flatT_len _ hall, List.length_map, b1] at hk1
            have hpos : 0 < te.size := by omega
            have hi : k / te.size < len := (Nat.div_lt_iff_lt_mul hpos).2 hk1
            have hj : k % te.size < te.size := Nat.mod_lt _ hpos
            have hkk : k = k / te.size * te.size + k % te.size := by rw [Nat.mul_comm]; exact (Nat.div_add_mod k te.size).symm
            have hp : ps[k / te.size]? = some (ps[k / te.size]'(by omega)) := List.getElem?_eq_getElem (by omega)
            refine ⟨k / te.size, k % te.size, _, hkk, hj, hp, ?_⟩
            rw [hkk] at hk
            rw [flatT_get _ _ _ _ hall (by rw [List.getElem?_map, hp]; rfl) hj] at hk
            exact hk
          refine ⟨[.sl e (ps.map fun p => mkEl te.row p.1)], .single rfl (.sl e _ (some a) len cap (fun k => ((ps.map (·.2)).flatten).getD k undef) (by simp [b1]) hlc hcm (fun x hx => ?_) (fun k y hk => ?_) (fun k y hk => ?_)), ⟨he0, _, rfl, by simp [b1]; omega, fun y hy => ?_⟩, fun ty' e => hsize ty' e _⟩
          · obtain ⟨p, hp, rfl⟩ := List.mem_map.1 hx
            rw [hszs]
            exact okEl_mk (hxl p hp).1 (hxl p hp).2 fun hr => by rw [(hxl p hp).1, hrow1 hr]
          · obtain ⟨i, j, p, rfl, hj, hp, hy⟩ := hlook k y hk
            obtain ⟨_, _, c3, bb, off, c4, c5⟩ := b2 i p hp
            refine ⟨bb, off, by rw [c4], stable_imm T _ _, ?_⟩
            rw [c5 j hj]
            have : (ps.map (·.2)).flatten[i * te.size + j]? = p.2[j]? := flatT_get _ _ _ _ (fun c hc => by
              obtain ⟨q, hq, rfl⟩ := List.mem_map.1 hc
              obtain ⟨i', hi'⟩ := List.getElem?_of_mem hq
              exact (b2 i' q hi').2.2.1) (by rw [List.getElem?_map, hp]; rfl) hj
            rw [List.getD_eq_getElem?_getD, List.getD_eq_getElem?_getD, this]
          · obtain ⟨i, j, p, rfl, hj, hp, hy⟩ := hlook k y hk
            obtain ⟨c1, _, c3, _⟩ := b2 i p hp
            have : (ps.map (·.2)).flatten[i * te.size + j]? = p.2[j]? := flatT_get _ _ _ _ (fun c hc => by
              obtain ⟨q, hq, rfl⟩ := List.mem_map.1 hc
              obtain ⟨i', hi'⟩ := List.getElem?_of_mem hq
              exact (b2 i' q hi').2.2.1) (by rw [List.getElem?_map, hp]; rfl) hj
            have := c1.rep j y hy
            rw [List.getD_eq_getElem?_getD] at this ⊢
            rwa [‹(ps.map (·.2)).flatten[i * te.size + j]? = p.2[j]?›]
          · obtain ⟨p, hp, rfl⟩ := List.mem_map.1 hy
            obtain ⟨i, hi⟩ := List.getElem?_of_mem hp
            exact ⟨te, p.1, rfl, rfl, (b2 i p hi).2.1⟩
      · cases hre
    · rename_i fs
      simp only [Bool.and_eq_true] at hre
      obtain ⟨hco, hfa⟩ := hre
      obtain ⟨ys, m, e1, _, hlen, _, hg⟩ := DataW.trod_struct hd h
      obtain rfl : n = m := by omega
      rw [cellsOf_eq hT hTt] at hlen
      have main : ∀ (l' : List Field) (i off : Nat), fs.toList.drop i = l' → contig T ty.size off l' = true → off ≤ ty.size → ∃ xs, RepC T w xs (cs.drop off) ∧ FitsFs (Fits T n) l' xs := by
        intro l'
        induction l' with
        | nil =>
          intro i off hdr hc ho
          have := Nat.eq_of_beq_eq_true hc
          refine ⟨[], ⟨by simp; omega, by simp, by simp⟩, rfl⟩
        | cons f l' ih =>
          intro i off hdr hc ho
          simp only [contig, Bool.and_eq_true] at hc
          obtain ⟨hc1, hc2⟩ := hc
          have hc1 := Nat.eq_of_beq_eq_true hc1
          have hfi : fs.toList[i]? = some f := by
            have : (fs.toList.drop i)[0]? = some f := by rw [hdr]; rfl
            simpa using this
          have hfm : f ∈ fs.toList := List.mem_of_getElem? hfi
          have h1 := List.all_eq_true.1 hfa f hfm
          have hfl : f.type ∈ l := by
            have := List.all_eq_true.1 hlead f hfm
            obtain ⟨z, hz, hb⟩ := List.any_eq_true.1 this
            have := Nat.eq_of_beq_eq_true hb
            rw [this]; exact hz
          cases hTf : T f.type with
          | none => rw [hTf] at h1; simp at h1
          | some tf =>
          have h2 := hg i f (by simpa using hfi)
          rw [cellsOf_eq hT hTf, hc1] at h2
          have hle : off + tf.size ≤ ty.size := by
            have : ∀ (l' : List Field) (off : Nat), contig T ty.size off l' = true → off ≤ ty.size := by
              intro l'
              induction l' with
              | nil => intro off hc; have := Nat.eq_of_beq_eq_true hc; omega
              | cons f l' ih => intro off hc; simp only [contig, Bool.and_eq_true] at hc; have := ih _ hc.2; omega
            have := this l' _ hc2
            rw [sizes_eq hTf] at this
            exact this
          have hys : i < ys.length := by
            cases hyi : ys[i]? with
            | none =>
              have hfi2 : i < fs.size := by
                have := (List.getElem?_eq_some_iff.1 hfi).1
                simpa using this
              have : ys.length = fs.size := by assumption
              rw [this]; exact hfi2
            | some y => exact (List.getElem?_eq_some_iff.1 hyi).1
          rw [List.getElem?_eq_getElem hys] at h2
          obtain ⟨xs, c1, c2, _⟩ := trod_rep hT hl n f.type _ _ hfl h2
          obtain ⟨rs, d1, d2⟩ := ih (i + 1) (off + sizes T f.type) (by rw [List.drop_add_one_eq_tail_drop, hdr]; rfl) hc2 (by rw [sizes_eq hTf]; exact hle)
          refine ⟨xs ++ rs, ?_, xs, rs, rfl, c2, d2⟩
          have := c1.append d1
          rw [sizes_eq hTf, ← List.drop_drop, List.take_append_drop] at this
          exact this
      obtain ⟨xs, c1, c2⟩ := main fs.toList 0 0 rfl hco (Nat.zero_le _)
      exact ⟨xs, by simpa using c1, c2, fun ty' e => by cases e; exact hlen⟩
/-- An argument. -/
theorem arg_rep (hT : TypesOK P T) {l : List TypeId} (hl : closedT T l = true) {t : TypeId} (ht : t ∈ l) {v : Value} {d : DataW H} {ps : List MemPlace} (hrow : ∀ ty, T t = some ty → (ty.row = true → ∃ cs, v = .agg cs) ∧ (ty.row = false → v.cells = #[v]))
    (hd : DataW.Trod enc P w base spare held t v d ps) : ∃ n x, Fits T n t (V.cells x) ∧ RepV (immG T) w x v ∧ ∀ ty, T t = some ty → x = mkEl ty.row (V.cells x) := by
  obtain ⟨fuel, hf⟩ := hd
  obtain ⟨xs, h1, h2, h3⟩ := trod_rep hT hl fuel t _ _ ht hf
  cases hTt : T t with
  | none => cases fuel <;> simp [Fits, hTt] at h2
  | some ty =>
  have h3 := h3 ty hTt
  obtain ⟨r1, r2⟩ := hrow ty hTt
  cases hr : ty.row with
  | true =>
    obtain ⟨cs, rfl⟩ := r1 hr
    refine ⟨fuel, .agg xs, h2, .agg xs cs (by rw [h1.len]; rfl) fun k y hk => ?_, fun ty' e => by cases e; rw [hr]; rfl⟩
    have := h1.rep k y hk
    simpa [Value.cells, List.getD_eq_getElem?_getD, Array.getD_eq_getD_getElem?] using this
  | false =>
    have hv := r2 hr
    rw [hv] at h1 h3
    have hl1 := h1.len
    simp at hl1
    match xs, hl1 with
    | [x], _ =>
      have ho := h1.one x (by simp)
      have hc : V.cells x = [x] := by cases x <;> first | rfl | cases ho
      exact ⟨fuel, x, by rw [hc]; exact h2, by simpa using h1.rep 0 x rfl, fun ty' e => by cases e; rw [hr, hc]; rfl⟩
end
end Go.Proofs.Ytdiieghcakhkdaa.En

/- Lists of data objects as plain data; the budget of the statements. -/
namespace Go.Proofs.Ytdiieghcakhkdaa.En
open Go
set_option linter.unusedVariables false
/-- A list of data objects: the first one's tag, value and kids, and the rest of the list. -/
inductive Tl where
  | nil
  | cons (tag : Int) (value : List UInt8) (kids : Tl) (rest : Tl)
  deriving DecidableEq
namespace Tl
def len : Tl → Nat
  | nil => 0
  | cons _ _ _ r => r.len + 1
def nodes : Tl → Nat
  | nil => 0
  | cons _ _ k r => k.nodes + r.nodes + 1
def append : Tl → Tl → Tl
  | nil, u => u
  | cons t v k r, u => cons t v k (r.append u)
def enc : Tl → List V
  | nil => []
  | cons t v k r => .agg [.int .i64 t, .bytes v, .sl 40 k.enc] :: r.enc
/-- As it came in: tags are of type int, slices have lengths. -/
def wf : Tl → Prop
  | nil => True
  | cons t v k r => (-9223372036854775808 ≤ t ∧ t ≤ 9223372036854775807) ∧ v.length ≤ 9223372036854775807 ∧ k.len ≤ 9223372036854775807 ∧ k.wf ∧ r.wf
/-- Objects and bytes. -/
def wt : Tl → Nat
  | nil => 0
  | cons _ v k r => v.length + 1 + k.wt + r.wt
theorem enc_len : ∀ l : Tl, l.enc.length = l.len
  | nil => rfl
  | cons t v k r => by simp [enc, len, enc_len r]
theorem len_le : ∀ l : Tl, l.len ≤ l.nodes
  | nil => Nat.le_refl _
  | cons t v k r => by have := len_le r; simp only [len, nodes]; omega
theorem nodes_le : ∀ l : Tl, l.nodes ≤ l.wt
  | nil => Nat.le_refl _
  | cons t v k r => by have := nodes_le k; have := nodes_le r; simp only [wt, nodes]; omega
theorem enc_append : ∀ a b : Tl, (a.append b).enc = a.enc ++ b.enc
  | nil, b => rfl
  | cons t v k r, b => by simp only [append, enc, enc_append r b, List.cons_append]
theorem wt_append : ∀ a b : Tl, (a.append b).wt = a.wt + b.wt
  | nil, b => by simp [append, wt]
  | cons t v k r, b => by simp only [append, wt, wt_append r b]; omega
theorem nodes_append : ∀ a b : Tl, (a.append b).nodes = a.nodes + b.nodes
  | nil, b => by simp [append, nodes]
  | cons t v k r, b => by simp only [append, nodes, nodes_append r b]; omega
theorem len_append : ∀ a b : Tl, (a.append b).len = a.len + b.len
  | nil, b => by simp [append, len]
  | cons t v k r, b => by simp only [append, len, len_append r b]; omega
theorem wf_append : ∀ a b : Tl, a.wf → b.wf → (a.append b).wf
  | nil, b, _, h => h
  | cons t v k r, b, ⟨h1, h2, h3, h4, h5⟩, h => ⟨h1, h2, h3, h4, wf_append r b h5 h⟩
theorem append_nil : ∀ a : Tl, a.append nil = a
  | nil => rfl
  | cons t v k r => by simp only [append, append_nil r]
/-- Small enough: no number overflows. -/
theorem len_wt (l : Tl) : l.len ≤ l.wt := Nat.le_trans (len_le l) (nodes_le l)
end Tl
/-! Left -/
def lf : Tl → Int → Int
  | .nil, b => b
  | .cons _ v k r, b => if b < 0 then b else if b < v.length then -1 else lf r (lf k (b - v.length - 1))
theorem lf_le : ∀ (l : Tl) (b : Int), -1 ≤ b → -1 ≤ lf l b ∧ lf l b ≤ b
  | .nil, b, h => ⟨h, Int.le_refl _⟩
  | .cons _ v k r, b, h => by
    unfold lf
    split
    · omega
    · split
      · omega
      · have h1 := lf_le k (b - v.length - 1) (by omega)
        have h2 := lf_le r _ h1.1
        omega
theorem lf_neg (l : Tl) : lf l (-1) = -1 := by have := lf_le l (-1) (by omega); omega
theorem lf_wt : ∀ (l : Tl) (b : Int), 0 ≤ b → ((l.wt : Int) ≤ b → lf l b = b - l.wt) ∧ (b < l.wt → lf l b = -1)
  | .nil, b, h => ⟨fun _ => by simp [lf, Tl.wt], fun h' => by simp [Tl.wt] at h'; omega⟩
  | .cons _ v k r, b, h => by
    unfold lf
    simp only [Tl.wt]
    rw [if_neg (by omega)]
    by_cases hv : b < v.length
    · rw [if_pos hv]; exact ⟨fun _ => by omega, fun _ => rfl⟩
    · rw [if_neg hv]
      by_cases hb : b - v.length - 1 < 0
      · have e : b - v.length - 1 = -1 := by omega
        rw [e, lf_neg, lf_neg]; exact ⟨fun _ => by omega, fun _ => rfl⟩
      · obtain ⟨h1, h2⟩ := lf_wt k (b - v.length - 1) (by omega)
        by_cases hk : (k.wt : Int) ≤ b - v.length - 1
        · rw [h1 hk]
          obtain ⟨h3, h4⟩ := lf_wt r (b - v.length - 1 - k.wt) (by omega)
          exact ⟨fun _ => by rw [h3 (by omega)]; omega, fun _ => h4 (by omega)⟩
        · rw [h2 (by omega), lf_neg]; exact ⟨fun _ => by omega, fun _ => rfl⟩
theorem Left_loop (N : Nat) (f : List V → Int → Option Int) (n : Nat) (hf : ∀ (k : Tl) (b : Int), k.nodes < n → k.wf → k.len ≤ 9223372036854775807 → -1 ≤ b → b ≤ 6000 → f k.enc b = some (lf k b)) :
    ∀ (l : Tl) (pre : List V) (t : Nat) (b : Int), l.len < t → l.nodes ≤ n → l.wf → pre.length + l.len ≤ 9223372036854775807 → -1 ≤ b → b ≤ 6000 →
      S_Left_2 N f (pre ++ l.enc) t b (pre.length : Int) (fun _ n1 => some n1) (fun n2 => some n2) = some (lf l b)
  | .nil, pre, 0, b, ht, _, _, _, _, _ => by simp [Tl.len] at ht
  | .nil, pre, t + 1, b, ht, _, _, _, _, _ => by
    unfold S_Left_2 F_Left_2
    simp [Tl.enc, br, lf]
  | .cons tg v k r, pre, 0, b, ht, _, _, _, _, _ => by simp [Tl.len] at ht
  | .cons tg v k r, pre, t + 1, b, ht, hn, hw, hl, hb1, hb2 => by
    simp only [Tl.len, Tl.nodes] at ht hn hl
    obtain ⟨_, hv, hk1, hk2, hr⟩ := hw
    have ih := Left_loop N f n hf r (pre ++ [.agg [.int .i64 tg, .bytes v, .sl 40 k.enc]]) t
    have e1 : pre ++ [V.agg [.int .i64 tg, .bytes v, .sl 40 k.enc]] ++ r.enc = pre ++ .agg [.int .i64 tg, .bytes v, .sl 40 k.enc] :: r.enc := by simp
    have e2 : ((pre ++ [V.agg [.int .i64 tg, .bytes v, .sl 40 k.enc]]).length : Int) = (pre.length : Int) + 1 := by simp
    rw [e1, e2] at ih
    unfold S_Left_2 F_Left_2 lf
    have h1 : (pre.length : Int) < ((pre ++ V.agg [.int .i64 tg, .bytes v, .sl 40 k.enc] :: r.enc).length : Int) := by simp; omega
    have h2 : (0 : Int) ≤ pre.length := by omega
    have h3 : IntKind.i64.wrap ((pre.length : Int) + 1) = (pre.length : Int) + 1 := w64 (by omega) (by omega)
    simp only [Tl.enc, br_t, br_f, br_dec, br_not, br_and, br_or, bnd1_mk, bnd2_mk, bnd3_mk, bnd4_mk, at_zero, at_succ, at_mid, unInt_mk, unBool_mk, unStr_mk, unBytes_mk, unSl_mk, unAgg_mk, unCons_mk, unNil_mk, h1, h2, if_true, Int.toNat_natCast]
    by_cases c1 : b < 0
    · rw [if_pos c1, if_neg (by omega)]
    · rw [if_neg c1, if_pos (by omega)]
      by_cases c2 : b < (v.length : Int)
      · rw [if_pos c2, if_pos c2]
      · rw [if_neg c2, if_neg c2]
        have h4 : IntKind.i64.wrap (IntKind.i64.wrap (b - (v.length : Int)) - 1) = b - v.length - 1 := by rw [w64 (n := b - (v.length : Int)) (by omega) (by omega), w64 (by omega) (by omega)]
        rw [h4, hf k _ (by omega) hk2 hk1 (by omega) (by omega), bnd1_mk, h3]
        have h5 := lf_le k (b - v.length - 1) (by omega)
        exact ih _ (by omega) (by omega) hr (by simp; omega) h5.1 (by omega)
theorem Left_eq (N : Nat) : ∀ (M : Nat) (l : Tl) (b : Int), l.nodes < M → l.nodes < N → l.wf → l.len ≤ 9223372036854775807 → -1 ≤ b → b ≤ 6000 → s_Left N M l.enc b = some (lf l b)
  | 0, l, b, h, _, _, _, _, _ => by omega
  | M + 1, l, b, h, hN, hw, hl, h1, h2 => by
    unfold s_Left B_Left
    have := l.len_le
    exact Left_loop N (s_Left N M) l.nodes (fun k b hk hkw hkl hb1 hb2 => Left_eq N M k b (by omega) (by omega) hkw hkl hb1 hb2) l [] N b (by omega) (Nat.le_refl _) hw (by simpa using hl) h1 h2
theorem few_eq (N : Nat) (l : Tl) (h : l.nodes < N) (hw : l.wf) (hl : l.len ≤ 9223372036854775807) : s_few N l.enc = some (decide (l.wt ≤ 6000)) := by
  unfold s_few
  rw [Left_eq N N l 6000 h h hw hl (by omega) (by omega), bnd1_mk]
  congr 1
  obtain ⟨h1, h2⟩ := lf_wt l 6000 (by omega)
  by_cases hc : l.wt ≤ 6000
  · rw [h1 (by omega)]; simp; omega
  · rw [h2 (by omega)]; simp; omega
end Go.Proofs.Ytdiieghcakhkdaa.En

/- Tags and lengths of data objects: what the program and the reference compute. -/
namespace Go.Proofs.Ytdiieghcakhkdaa.En
open Go
set_option linter.unusedVariables false
def I64 (t : Int) : Prop := -9223372036854775808 ≤ t ∧ t ≤ 9223372036854775807
def tagV (t : Int) : Bool := decide ((1 ≤ t ∧ t ≤ 255 ∧ t % 32 ≠ 31) ∨ (256 ≤ t ∧ t ≤ 65535 ∧ t / 256 % 32 = 31 ∧ 31 ≤ t % 256 ∧ t % 256 ≤ 127))
def tagC (t : Int) : Bool := tagV t && decide ((if 255 < t then t / 256 else t) / 32 % 2 = 1)
theorem tagV_range {t : Int} (h : tagV t = true) : 1 ≤ t ∧ t ≤ 65535 := by simp [tagV] at h; omega
theorem Valid_eq (N : Nat) (t : Int) (h : I64 t) : s_Valid N t = some (tagV t) := by
  unfold s_Valid
  simp only [br_t, br_f, br_dec, br_not, br_and, br_or, bnd1_mk, bnd2_mk, bnd3_mk, bnd4_mk, at_zero, at_succ, at_mid, unInt_mk, unBool_mk, unStr_mk, unBytes_mk, unSl_mk, unAgg_mk, unCons_mk, unNil_mk, and31, and255, shr8]
  repeat' split
  all_goals (congr 1; rw [Bool.eq_iff_iff]; simp [tagV]; omega)
theorem rValid_eq (N : Nat) (t : Int) (h : I64 t) : s_rValid N t = some (tagV t) := by
  unfold s_rValid
  simp only [br_t, br_f, br_dec, br_not, br_and, br_or, bnd1_mk, bnd2_mk, bnd3_mk, bnd4_mk, at_zero, at_succ, at_mid, unInt_mk, unBool_mk, unStr_mk, unBytes_mk, unSl_mk, unAgg_mk, unCons_mk, unNil_mk]
  by_cases h0 : 1 ≤ t
  · have e1 : t.tmod 32 = t % 32 := Int.tmod_eq_emod_of_nonneg (by omega)
    have e2 : t.tmod 256 = t % 256 := Int.tmod_eq_emod_of_nonneg (by omega)
    have e3 : t.tdiv 256 = t / 256 := Int.tdiv_eq_ediv_of_nonneg (by omega)
    have e4 : IntKind.i64.wrap (t / 256) = t / 256 := w64 (by unfold I64 at h; omega) (by unfold I64 at h; omega)
    have e5 : (t / 256).tmod 32 = t / 256 % 32 := Int.tmod_eq_emod_of_nonneg (by omega)
    simp only [e1, e2, e3, e4, e5]
    repeat' split
    all_goals (congr 1; rw [Bool.eq_iff_iff]; simp [tagV]; omega)
  · rw [if_neg h0, if_neg (by omega)]
    congr 1; rw [Bool.eq_iff_iff]; simp [tagV]; omega
theorem Constructed_eq (N : Nat) (t : Int) (h : I64 t) : s_Constructed N t = some (tagC t) := by
  unfold s_Constructed tagC
  simp only [br_t, br_f, br_dec, br_not, br_and, br_or, bnd1_mk, bnd2_mk, bnd3_mk, bnd4_mk, at_zero, at_succ, at_mid, unInt_mk, unBool_mk, unStr_mk, unBytes_mk, unSl_mk, unAgg_mk, unCons_mk, unNil_mk, Valid_eq N t h, and32, shr8]
  cases tagV t with
  | false => simp [br]
  | true =>
    simp only [br_t, Bool.true_and]
    by_cases hc : 255 < t
    · rw [if_pos hc, if_pos hc]; congr 1; rw [Bool.eq_iff_iff]; simp; omega
    · rw [if_neg hc, if_neg hc]; congr 1; rw [Bool.eq_iff_iff]; simp; omega
theorem rConstructed_eq (N : Nat) (t : Int) (h : I64 t) : s_rConstructed N t = some (tagC t) := by
  unfold s_rConstructed s_rfirst tagC
  simp only [br_t, br_f, br_dec, br_not, br_and, br_or, bnd1_mk, bnd2_mk, bnd3_mk, bnd4_mk, at_zero, at_succ, at_mid, unInt_mk, unBool_mk, unStr_mk, unBytes_mk, unSl_mk, unAgg_mk, unCons_mk, unNil_mk, rValid_eq N t h]
  cases ht : tagV t with
  | false => simp [br]
  | true =>
    have hr := tagV_range ht
    have e3 : t.tdiv 256 = t / 256 := Int.tdiv_eq_ediv_of_nonneg (by omega)
    have e4 : IntKind.i64.wrap (t / 256) = t / 256 := w64 (by omega) (by omega)
    have e5 : ∀ x : Int, 1 ≤ x → x ≤ 65535 → (IntKind.i64.wrap (x.tdiv 32)).tmod 2 = x / 32 % 2 := fun x h1 h2 => by
      rw [Int.tdiv_eq_ediv_of_nonneg (by omega), w64 (by omega) (by omega)]
      exact Int.tmod_eq_emod_of_nonneg (by omega)
    simp only [br_t, Bool.true_and, e3, e4]
    by_cases hc : 255 < t
    · rw [if_pos hc, if_pos hc, bnd1_mk, e5 _ (by omega) (by omega)]
    · rw [if_neg hc, if_neg hc, bnd1_mk, e5 _ (by omega) (by omega)]
/-! The bytes of tags and lengths -/
def byteI (n : Int) : UInt8 := UInt8.ofNat (n % 256).toNat
theorem byteI_toNat (n : Int) : ((byteI n).toNat : Int) = n % 256 := by
  unfold byteI
  rw [UInt8.toNat_ofNat', Nat.mod_eq_of_lt (by omega)]; omega
theorem byteI_u8 (u : UInt8) : byteI (u.toNat : Int) = u := by
  apply UInt8.toNat_inj.1
  have := byteI_toNat (u.toNat : Int)
  have := u8_lt u
  omega
theorem byteI_eq {n : Int} {u : UInt8} (h : n % 256 = u.toNat) : byteI n = u := by
  apply UInt8.toNat_inj.1
  have := byteI_toNat n
  omega
def tagB (t : Int) : List UInt8 := if 255 < t then [byteI (t / 256), byteI t] else [byteI t]
def lenB (n : Int) : List UInt8 := if n < 128 then [byteI n] else if n < 256 then [129, byteI n] else [130, byteI (n / 256), byteI n]
theorem tagBytes_eq (N : Nat) (t : Int) : s_tagBytes N t = some (tagB t) := by
  unfold s_tagBytes tagB byteI
  simp only [br_t, br_f, br_dec, br_not, br_and, br_or, bnd1_mk, bnd2_mk, bnd3_mk, bnd4_mk, at_zero, at_succ, at_mid, unInt_mk, unBool_mk, unStr_mk, unBytes_mk, unSl_mk, unAgg_mk, unCons_mk, unNil_mk, shr8, wu8]
  split <;> rfl
theorem lengthBytes_eq (N : Nat) (n : Int) : s_lengthBytes N n = some (lenB n) := by
  unfold s_lengthBytes lenB byteI
  simp only [br_t, br_f, br_dec, br_not, br_and, br_or, bnd1_mk, bnd2_mk, bnd3_mk, bnd4_mk, at_zero, at_succ, at_mid, unInt_mk, unBool_mk, unStr_mk, unBytes_mk, unSl_mk, unAgg_mk, unCons_mk, unNil_mk, shr8, wu8]
  repeat' split
  all_goals rfl
theorem rhead_eq (N : Nat) (t n : Int) (ht : 0 ≤ t ∧ t ≤ 65535) (hn : 0 ≤ n ∧ n ≤ 65535) : s_rhead N t n = some (tagB t ++ lenB n) := by
  have e1 : ∀ x : Int, 0 ≤ x ∧ x ≤ 65535 → IntKind.i64.wrap (x.tdiv 256) = x / 256 := fun x h => by
    rw [Int.tdiv_eq_ediv_of_nonneg h.1, w64 (by omega) (by omega)]
  have e2 : ∀ x : Int, 0 ≤ x ∧ x ≤ 65535 → x.tmod 256 = x % 256 := fun x h => Int.tmod_eq_emod_of_nonneg h.1
  unfold s_rhead tagB lenB byteI
  simp only [br_t, br_f, br_dec, br_not, br_and, br_or, bnd1_mk, bnd2_mk, bnd3_mk, bnd4_mk, at_zero, at_succ, at_mid, unInt_mk, unBool_mk, unStr_mk, unBytes_mk, unSl_mk, unAgg_mk, unCons_mk, unNil_mk, wu8, e1 t ht, e1 n hn, e2 t ht, e2 n hn, Int.emod_emod_of_dvd _ (Int.dvd_refl 256)]
  have q1 : (n < 128) ↔ ¬ (128 ≤ n) := by omega
  have q2 : (n < 256) ↔ ¬ (256 ≤ n) := by omega
  simp only [q1, q2]
  by_cases h1 : 255 < t <;> by_cases h2 : 256 ≤ n <;> by_cases h3 : 128 ≤ n
  all_goals simp only [h1, h2, h3, if_true, if_false, not_true, not_false_iff, List.cons_append, List.nil_append]
  all_goals first | rfl | omega
end Go.Proofs.Ytdiieghcakhkdaa.En

/- Encoding data objects: what the program and the reference compute. -/
namespace Go.Proofs.Ytdiieghcakhkdaa.En
open Go
set_option linter.unusedVariables false
def Tl.isNil : Tl → Bool
  | .nil => true
  | _ => false
def okL : Int → Tl → Bool
  | _, .nil => true
  | d, .cons t v k r => (decide (d ≤ 8) && (tagV t && (bif tagC t then v.isEmpty && okL (d + 1) k else k.isNil))) && okL d r
def encL : Tl → List UInt8
  | .nil => []
  | .cons t v k r => (tagB t ++ lenB ((bif tagC t then encL k else v).length : Int) ++ (bif tagC t then encL k else v)) ++ encL r
theorem encL_cons (t : Int) (v : List UInt8) (k r : Tl) : encL (.cons t v k r) = (tagB t ++ lenB ((bif tagC t then encL k else v).length : Int) ++ (bif tagC t then encL k else v)) ++ encL r := by
  conv => lhs; unfold encL
theorem encL_append : ∀ a b : Tl, encL (a.append b) = encL a ++ encL b
  | .nil, b => rfl
  | .cons t v k r, b => by simp only [Tl.append, encL_cons, encL_append r b, List.append_assoc]
theorem okL_append (d : Int) : ∀ a b : Tl, okL d (a.append b) = (okL d a && okL d b)
  | .nil, b => by simp [Tl.append, okL]
  | .cons t v k r, b => by simp only [Tl.append, okL, okL_append d r b, Bool.and_assoc]
theorem isNil_len (k : Tl) : k.isNil = decide (k.len = 0) := by cases k <;> simp [Tl.isNil, Tl.len]
theorem tagB_len (t : Int) : 1 ≤ (tagB t).length ∧ (tagB t).length ≤ 2 := by unfold tagB; split <;> simp
theorem lenB_len (n : Int) : 1 ≤ (lenB n).length ∧ (lenB n).length ≤ 3 := by unfold lenB; (repeat' split) <;> simp
section
variable (N : Nat) (n : Nat) (d : Int)
abbrev L63 (k : Tl) : Prop := k.len ≤ 9223372036854775807
theorem mid (pre : List V) (x : V) (suf : List V) : pre ++ x :: suf = (pre ++ [x]) ++ suf := by simp
/-- What a step through a list knows. -/
theorem stepI (pre : List V) (x : V) (suf : List V) (h : pre.length + (suf.length + 1) ≤ 9223372036854775807) :
    (pre.length : Int) < ((pre ++ x :: suf).length : Int) ∧ (0 : Int) ≤ pre.length ∧ IntKind.i64.wrap ((pre.length : Int) + 1) = ((pre ++ [x]).length : Int) ∧ ((pre ++ x :: suf).length : Int) = (((pre ++ [x]) ++ suf).length : Int) := by
  refine ⟨by simp; omega, by omega, ?_, by simp⟩
  rw [w64 (by omega) (by omega)]; simp
theorem endI (pre : List V) : ¬ ((pre.length : Int) < ((pre ++ ([] : List V)).length : Int)) := by simp
theorem IndexFuncV_loop (f : List V → Int → Option Bool) (hd : -9223372036854775808 ≤ d ∧ d ≤ 1000) (hf : ∀ (k : Tl), d ≤ 8 → k.nodes < n → k.wf → L63 k → f k.enc (d + 1) = some (okL (d + 1) k)) :
    ∀ (l : Tl) (pre : List V) (t : Nat), l.len < t → l.nodes ≤ n → l.wf → pre.length + l.len ≤ 9223372036854775807 →
      ∃ i, S_IndexFuncV_2 N f (pre ++ l.enc) ((pre ++ l.enc).length : Int) d t (pre.length : Int) (fun n0 => some n0) (some (-1)) = some i ∧ decide (0 ≤ i) = !okL d l
  | l, pre, 0, ht, _, _, _ => by omega
  | .nil, pre, t + 1, ht, _, _, _ => by
    unfold S_IndexFuncV_2 F_IndexFuncV_2
    simp only [Tl.enc, br_t, br_f, br_dec, br_not, br_and, br_or, bnd1_mk, bnd2_mk, bnd3_mk, bnd4_mk, at_zero, at_succ, at_mid, unInt_mk, unBool_mk, unStr_mk, unBytes_mk, unSl_mk, unAgg_mk, unCons_mk, unNil_mk, endI, if_false]
    exact ⟨-1, rfl, by simp [okL]⟩
  | .cons tg v k r, pre, t + 1, ht, hn, hw, hl => by
    simp only [Tl.len, Tl.nodes] at ht hn hl
    obtain ⟨ht1, hv, hk1, hk2, hr⟩ := hw
    obtain ⟨h1, h2, h3, h4⟩ := stepI pre (.agg [.int .i64 tg, .bytes v, .sl 40 k.enc]) r.enc (by rw [Tl.enc_len]; exact hl)
    obtain ⟨i, ih1, ih2⟩ := IndexFuncV_loop f hd hf r (pre ++ [.agg [.int .i64 tg, .bytes v, .sl 40 k.enc]]) t (by omega) (by omega) hr (by simp; omega)
    rw [← mid, ← h3] at ih1
    unfold S_IndexFuncV_2 F_IndexFuncV_2 s_valid1 C_valid1 okL
    simp only [Tl.enc, br_t, br_f, br_dec, br_not, br_and, br_or, bnd1_mk, bnd2_mk, bnd3_mk, bnd4_mk, at_zero, at_succ, at_mid, unInt_mk, unBool_mk, unStr_mk, unBytes_mk, unSl_mk, unAgg_mk, unCons_mk, unNil_mk, h1, h2, if_true, Int.toNat_natCast, Valid_eq N tg ht1, Constructed_eq N tg ht1]
    by_cases c1 : 8 < d
    · rw [if_pos c1]
      exact ⟨_, by rw [bnd1_mk, br_t], by simp; omega⟩
    · rw [if_neg c1]
      cases tagV tg with
      | false => exact ⟨_, by rw [br_f, bnd1_mk, br_t], by simp⟩
      | true =>
        rw [br_t]
        cases tagC tg with
        | false =>
          rw [br_f, bnd1_mk, br_dec, Tl.enc_len]
          by_cases c2 : (0 : Int) < (k.len : Int)
          · rw [if_pos c2]; refine ⟨_, rfl, ?_⟩; simp [isNil_len]; omega
          · rw [if_neg c2]; refine ⟨i, ih1, ?_⟩
            rw [ih2]
            have : k.len = 0 := by omega
            simp [isNil_len, this, (by omega : d ≤ 8)]
        | true =>
          rw [br_t]
          by_cases c2 : (0 : Int) < (v.length : Int)
          · rw [if_pos c2]
            refine ⟨_, by rw [bnd1_mk, br_t], ?_⟩
            cases v with
            | nil => simp at c2
            | cons a b => simp
          · rw [if_neg c2]
            have hv0 : v = [] := List.length_eq_zero_iff.1 (by omega)
            subst hv0
            rw [w64 (n := d + 1) (by omega) (by omega), hf k (by omega) (by omega) hk2 hk1, bnd1_mk, bnd1_mk]
            cases okL (d + 1) k with
            | false => refine ⟨_, rfl, by simp⟩
            | true => refine ⟨i, ih1, ?_⟩; rw [ih2]; simp [(by omega : d ≤ 8)]
theorem valid_eq (N : Nat) : ∀ (M : Nat) (l : Tl) (d : Int), l.nodes < M → l.nodes < N → l.wf → L63 l → -9223372036854775808 ≤ d ∧ d ≤ 1000 → s_valid N M l.enc d = some (okL d l)
  | 0, l, d, h, _, _, _, _ => by omega
  | M + 1, l, d, h, hN, hw, hl, hd => by
    have := l.len_le
    obtain ⟨i, h1, h2⟩ := IndexFuncV_loop N l.nodes d (s_valid N M) hd (fun k hd8 hk hkw hkl => valid_eq N M k (d + 1) (by omega) (by omega) hkw hkl (by omega)) l [] N (by omega) (Nat.le_refl _) hw (by simpa using hl)
    simp only [List.nil_append, List.length_nil, Int.natCast_zero] at h1
    unfold s_valid B_valid s_ContainsFuncV C_ContainsFuncV s_IndexFuncV C_IndexFuncV
    have h1' : S_IndexFuncV_2 N (s_valid N M) l.enc (l.enc.length : Int) d N 0 (fun n0 => some n0) (some (-1)) = some i := h1
    rw [h1', bnd1_mk, bnd1_mk, h2, Bool.not_not]
theorem rright_loop (f : List V → Int → Option Bool) (hd : -9223372036854775808 ≤ d ∧ d ≤ 1000) (hf : ∀ (k : Tl), d ≤ 8 → k.nodes < n → k.wf → L63 k → f k.enc (d + 1) = some (okL (d + 1) k)) :
    ∀ (l : Tl) (pre : List V) (t : Nat), l.len < t → l.nodes ≤ n → l.wf → pre.length + l.len ≤ 9223372036854775807 →
      S_rright_2 N f (pre ++ l.enc) d t (pre.length : Int) (fun b => some b) (some true) = some (okL d l)
  | l, pre, 0, ht, _, _, _ => by omega
  | .nil, pre, t + 1, ht, _, _, _ => by
    unfold S_rright_2 F_rright_2
    simp only [Tl.enc, br_t, br_f, br_dec, br_not, br_and, br_or, bnd1_mk, bnd2_mk, bnd3_mk, bnd4_mk, at_zero, at_succ, at_mid, unInt_mk, unBool_mk, unStr_mk, unBytes_mk, unSl_mk, unAgg_mk, unCons_mk, unNil_mk, endI, if_false, okL]
  | .cons tg v k r, pre, t + 1, ht, hn, hw, hl => by
    simp only [Tl.len, Tl.nodes] at ht hn hl
    obtain ⟨ht1, hv, hk1, hk2, hr⟩ := hw
    obtain ⟨h1, h2, h3, h4⟩ := stepI pre (.agg [.int .i64 tg, .bytes v, .sl 40 k.enc]) r.enc (by rw [Tl.enc_len]; exact hl)
    have ih := rright_loop f hd hf r (pre ++ [.agg [.int .i64 tg, .bytes v, .sl 40 k.enc]]) t (by omega) (by omega) hr (by simp; omega)
    rw [← mid, ← h3] at ih
    unfold S_rright_2 F_rright_2 okL
    simp only [Tl.enc, br_t, br_f, br_dec, br_not, br_and, br_or, bnd1_mk, bnd2_mk, bnd3_mk, bnd4_mk, at_zero, at_succ, at_mid, unInt_mk, unBool_mk, unStr_mk, unBytes_mk, unSl_mk, unAgg_mk, unCons_mk, unNil_mk, h1, h2, if_true, Int.toNat_natCast, rValid_eq N tg ht1, rConstructed_eq N tg ht1]
    by_cases c1 : 8 < d
    · rw [if_pos c1]; simp; omega
    · rw [if_neg c1]
      have c1' : d ≤ 8 := by omega
      simp only [c1', decide_true, Bool.true_and]
      cases tagV tg with
      | false => rfl
      | true =>
        rw [br_t]
        cases tagC tg with
        | false =>
          simp only [br_f, Tl.enc_len, cond_false, Bool.true_and]
          by_cases c2 : (0 : Int) < (k.len : Int)
          · rw [if_pos c2]; simp [isNil_len]; omega
          · rw [if_neg c2, ih]
            have : k.len = 0 := by omega
            simp [isNil_len, this]
        | true =>
          simp only [br_t, cond_true, Bool.true_and]
          by_cases c2 : (0 : Int) < (v.length : Int)
          · rw [if_pos c2]
            cases v with
            | nil => simp at c2
            | cons a b => rfl
          · rw [if_neg c2]
            have hv0 : v = [] := List.length_eq_zero_iff.1 (by omega)
            subst hv0
            rw [w64 (n := d + 1) (by omega) (by omega), hf k c1' (by omega) hk2 hk1, bnd1_mk]
            cases okL (d + 1) k with
            | false => rfl
            | true => rw [br_t, ih]; rfl
theorem rright_eq (N : Nat) : ∀ (M : Nat) (l : Tl) (d : Int), l.nodes < M → l.nodes < N → l.wf → L63 l → -9223372036854775808 ≤ d ∧ d ≤ 1000 → s_rright N M l.enc d = some (okL d l)
  | 0, l, d, h, _, _, _, _ => by omega
  | M + 1, l, d, h, hN, hw, hl, hd => by
    have := l.len_le
    exact rright_loop N l.nodes d (s_rright N M) hd (fun k hd8 hk hkw hkl => rright_eq N M k (d + 1) (by omega) (by omega) hkw hkl (by omega)) l [] N (by omega) (Nat.le_refl _) hw (by simpa using hl)
/-! size -/
theorem size_loop (f : List V → Option Int)
    (hf : ∀ (k : Tl), k.nodes < n → k.wf → L63 k → k.wt ≤ 20000 → okL (d + 1) k = true → ∃ s, f k.enc = some s ∧ (((encL k).length : Int) ≤ 4096 → s = (encL k).length) ∧ (4096 < ((encL k).length : Int) → 4096 < s) ∧ 0 ≤ s ∧ s ≤ 5 * k.wt) :
    ∀ (l : Tl) (pre : List V) (t : Nat) (n0 : Int), l.len < t → l.nodes ≤ n → l.wf → pre.length + l.len ≤ 9223372036854775807 → l.wt ≤ 20000 → okL d l = true → 0 ≤ n0 → n0 ≤ 4096 →
      ∃ s, S_size_3 N f (pre ++ l.enc) ((pre ++ l.enc).length : Int) t n0 (pre.length : Int) (fun n0 => some n0) = some s ∧ (n0 + (encL l).length ≤ 4096 → s = n0 + (encL l).length) ∧ (4096 < n0 + (encL l).length → 4096 < s) ∧ n0 ≤ s ∧ s ≤ n0 + 5 * l.wt
  | l, pre, 0, n0, ht, _, _, _, _, _, _, _ => by omega
  | .nil, pre, t + 1, n0, ht, _, _, _, _, _, _, _ => by
    unfold S_size_3 F_size_3
    simp only [Tl.enc, br_t, br_f, br_dec, br_not, br_and, br_or, bnd1_mk, bnd2_mk, bnd3_mk, bnd4_mk, at_zero, at_succ, at_mid, unInt_mk, unBool_mk, unStr_mk, unBytes_mk, unSl_mk, unAgg_mk, unCons_mk, unNil_mk, endI, if_false]
    exact ⟨n0, rfl, fun _ => by simp [encL], fun h => by simp [encL] at h; omega, Int.le_refl _, by omega⟩
  | .cons tg v k r, pre, t + 1, n0, ht, hn, hw, hl, hwt, hok, hn0, hn1 => by
    simp only [Tl.len, Tl.nodes, Tl.wt] at ht hn hl hwt
    obtain ⟨ht1, hv, hk1, hk2, hr⟩ := hw
    obtain ⟨h1, h2, h3, h4⟩ := stepI pre (.agg [.int .i64 tg, .bytes v, .sl 40 k.enc]) r.enc (by rw [Tl.enc_len]; exact hl)
    unfold okL at hok
    simp only [Bool.and_eq_true] at hok
    obtain ⟨⟨hd8, htv, hb⟩, hokr⟩ := hok
    -- the kids
    have hkid : ∃ s, f k.enc = some s ∧ (((bif tagC tg then encL k else v).length : Int) ≤ 4096 → (v.length : Int) + s = (bif tagC tg then encL k else v).length) ∧ (4096 < ((bif tagC tg then encL k else v).length : Int) → 4096 < (v.length : Int) + s) ∧ 0 ≤ s ∧ s ≤ 5 * k.wt := by
      cases hc : tagC tg with
      | true =>
        rw [hc] at hb
        simp only [cond_true, Bool.and_eq_true] at hb
        have hv0 : v = [] := by cases v with | nil => rfl | cons a b => simp at hb
        subst hv0
        obtain ⟨s, s1, s2, s3, s4, s5⟩ := hf k (by omega) hk2 hk1 (by omega) hb.2
        exact ⟨s, s1, fun h => by rw [s2 h]; simp, fun h => by have := s3 h; simp; omega, s4, s5⟩
      | false =>
        rw [hc] at hb
        simp only [cond_false] at hb
        have hk0 : k = .nil := by cases k with | nil => rfl | cons a b c d => simp [Tl.isNil] at hb
        subst hk0
        obtain ⟨s, s1, s2, s3, s4, s5⟩ := hf .nil (by have : Tl.nil.nodes = 0 := rfl; omega) trivial (Nat.zero_le _) (Nat.zero_le _) rfl
        have hs0 : s = 0 := by have := s2 (by simp [encL]); simpa [encL] using this
        subst hs0
        exact ⟨0, s1, fun h => Int.add_zero _, fun h => by rw [Int.add_zero]; exact h, Int.le_refl _, by omega⟩
    obtain ⟨s, s1, s2, s3, s4, s5⟩ := hkid
    have hE : (encL (.cons tg v k r)).length = (tagB tg).length + (lenB ((bif tagC tg then encL k else v).length : Int)).length + (bif tagC tg then encL k else v).length + (encL r).length := by
      rw [encL_cons]; simp only [List.length_append]
    rw [hE]
    generalize hB : (bif tagC tg then encL k else v) = B at *
    have ht2 := tagB_len tg
    have hl2 := lenB_len ((v.length : Int) + s)
    have hl3 := lenB_len (B.length : Int)
    unfold S_size_3 F_size_3
    have w1 : IntKind.i64.wrap ((v.length : Int) + s) = v.length + s := w64 (by omega) (by omega)
    simp only [Tl.enc, br_t, br_f, br_dec, br_not, br_and, br_or, bnd1_mk, bnd2_mk, bnd3_mk, bnd4_mk, at_zero, at_succ, at_mid, unInt_mk, unBool_mk, unStr_mk, unBytes_mk, unSl_mk, unAgg_mk, unCons_mk, unNil_mk, h1, h2, if_true, Int.toNat_natCast, s1, tagBytes_eq, w1, lengthBytes_eq]
    have w2 : IntKind.i64.wrap (((tagB tg).length : Int) + ((lenB ((v.length : Int) + s)).length : Int)) = (tagB tg).length + (lenB ((v.length : Int) + s)).length := w64 (by omega) (by omega)
    rw [w2]
    have w3 : IntKind.i64.wrap (((tagB tg).length : Int) + ((lenB ((v.length : Int) + s)).length : Int) + ((v.length : Int) + s)) = (tagB tg).length + (lenB ((v.length : Int) + s)).length + (v.length + s) := w64 (by omega) (by omega)
    rw [w3]
    have w4 : IntKind.i64.wrap (n0 + (((tagB tg).length : Int) + ((lenB ((v.length : Int) + s)).length : Int) + ((v.length : Int) + s))) = n0 + ((tagB tg).length + (lenB ((v.length : Int) + s)).length + (v.length + s)) := w64 (by omega) (by omega)
    rw [w4]
    by_cases c1 : 4096 < n0 + (((tagB tg).length : Int) + ((lenB ((v.length : Int) + s)).length : Int) + ((v.length : Int) + s))
    · rw [if_pos c1]
      refine ⟨_, rfl, fun h => ?_, fun _ => c1, by omega, by simp only [Tl.wt]; omega⟩
      exfalso
      have e1 := s2 (by omega)
      rw [e1] at c1
      omega
    · rw [if_neg c1]
      have e1 : (v.length : Int) + s = B.length := by
        by_cases hb4 : (B.length : Int) ≤ 4096
        · exact s2 hb4
        · have := s3 (by omega); omega
      rw [e1] at c1 ⊢
      obtain ⟨q, q1, q2, q3, q4, q5⟩ := size_loop f hf r (pre ++ [.agg [.int .i64 tg, .bytes v, .sl 40 k.enc]]) t (n0 + (((tagB tg).length : Int) + ((lenB (B.length : Int)).length : Int) + (B.length : Int))) (by omega) (by omega) hr (by simp; omega) (by omega) hokr (by omega) (by omega)
      rw [← mid, ← h3] at q1
      refine ⟨q, q1, fun h => by rw [q2 (by omega)]; omega, fun h => q3 (by omega), by omega, by simp only [Tl.wt]; omega⟩
theorem size_eq (N : Nat) : ∀ (M : Nat) (l : Tl) (d : Int), l.nodes < M → l.nodes < N → l.wf → L63 l → l.wt ≤ 20000 → okL d l = true →
    ∃ s, s_size N M l.enc = some s ∧ (((encL l).length : Int) ≤ 4096 → s = (encL l).length) ∧ (4096 < ((encL l).length : Int) → 4096 < s) ∧ 0 ≤ s ∧ s ≤ 5 * l.wt
  | 0, l, d, h, _, _, _, _, _ => by omega
  | M + 1, l, d, h, hN, hw, hl, hwt, hok => by
    have := l.len_le
    obtain ⟨s, s1, s2, s3, s4, s5⟩ := size_loop N l.nodes d (s_size N M) (fun k hk hkw hkl hkwt hkok => size_eq N M k (d + 1) (by omega) (by omega) hkw hkl hkwt hkok) l [] N 0 (by omega) (Nat.le_refl _) hw (by simpa using hl) hwt hok (by omega) (by omega)
    unfold s_size B_size
    refine ⟨s, s1, fun h => by rw [s2 (by omega)]; omega, fun h => s3 (by omega), by omega, by omega⟩
/-! encode, all -/
theorem concat4 (a b c e : List UInt8) (h : a.length + b.length + c.length + e.length ≤ 1000000) : s_concat N [.bytes a, .bytes b, .bytes c, .bytes e] = some (a ++ (b ++ c ++ e)) := by
  unfold s_concat
  simp only [flatB, Option.bind_some, br_dec]
  rw [if_pos (by simp; omega)]
  simp
theorem encode_loop (f : List V → Option (List UInt8)) (hf : ∀ (k : Tl), k.nodes < n → k.wf → L63 k → (encL k).length ≤ 4096 → f k.enc = some (encL k)) :
    ∀ (l : Tl) (pre : List V) (t : Nat) (acc : List UInt8), l.len < t → l.nodes ≤ n → l.wf → pre.length + l.len ≤ 9223372036854775807 → acc.length + (encL l).length ≤ 4096 →
      S_encode_3 N f (pre ++ l.enc) ((pre ++ l.enc).length : Int) t acc (pre.length : Int) (fun l0 => some l0) = some (acc ++ encL l)
  | l, pre, 0, acc, ht, _, _, _, _ => by omega
  | .nil, pre, t + 1, acc, ht, _, _, _, _ => by
    unfold S_encode_3 F_encode_3
    simp only [Tl.enc, br_t, br_f, br_dec, br_not, br_and, br_or, bnd1_mk, bnd2_mk, bnd3_mk, bnd4_mk, at_zero, at_succ, at_mid, unInt_mk, unBool_mk, unStr_mk, unBytes_mk, unSl_mk, unAgg_mk, unCons_mk, unNil_mk, endI, if_false]
    simp [encL]
  | .cons tg v k r, pre, t + 1, acc, ht, hn, hw, hl, hE => by
    simp only [Tl.len, Tl.nodes] at ht hn hl
    obtain ⟨ht1, hv, hk1, hk2, hr⟩ := hw
    obtain ⟨h1, h2, h3, h4⟩ := stepI pre (.agg [.int .i64 tg, .bytes v, .sl 40 k.enc]) r.enc (by rw [Tl.enc_len]; exact hl)
    rw [encL_cons] at hE ⊢
    have ht2 := tagB_len tg
    unfold S_encode_3 F_encode_3
    simp only [Tl.enc, br_t, br_f, br_dec, br_not, br_and, br_or, bnd1_mk, bnd2_mk, bnd3_mk, bnd4_mk, at_zero, at_succ, at_mid, unInt_mk, unBool_mk, unStr_mk, unBytes_mk, unSl_mk, unAgg_mk, unCons_mk, unNil_mk, h1, h2, if_true, Int.toNat_natCast, Constructed_eq N tg ht1, tagBytes_eq, lengthBytes_eq]
    generalize hB : (bif tagC tg then encL k else v) = B at *
    simp only [List.length_append] at hE
    have ih := encode_loop f hf r (pre ++ [.agg [.int .i64 tg, .bytes v, .sl 40 k.enc]]) t (acc ++ (tagB tg ++ lenB (B.length : Int) ++ B)) (by omega) (by omega) hr (by simp; omega) (by simp; omega)
    rw [← mid, ← h3] at ih
    cases hc : tagC tg with
    | true =>
      rw [hc] at hB
      simp only [cond_true] at hB
      subst hB
      rw [br_t, hf k (by omega) hk2 hk1 (by omega), bnd1_mk, concat4 N _ _ _ _ (by omega), bnd1_mk, ih]; simp
    | false =>
      rw [hc] at hB
      simp only [cond_false] at hB
      subst hB
      rw [br_f, concat4 N _ _ _ _ (by omega), bnd1_mk, ih]; simp
theorem encode_eq (N : Nat) : ∀ (M : Nat) (l : Tl), l.nodes < M → l.nodes < N → l.wf → L63 l → (encL l).length ≤ 4096 → s_encode N M l.enc = some (encL l)
  | 0, l, h, _, _, _, _ => by omega
  | M + 1, l, h, hN, hw, hl, hE => by
    have := l.len_le
    exact encode_loop N l.nodes (s_encode N M) (fun k hk hkw hkl hkE => encode_eq N M k (by omega) (by omega) hkw hkl hkE) l [] N [] (by omega) (Nat.le_refl _) hw (by simpa using hl) (by simpa using hE)
/-- Encode -/
def encR (l : Tl) : List UInt8 × Int := if okL 1 l = true then (if (encL l).length ≤ 4096 then (encL l, 0) else ([], 3)) else ([], 1)
theorem Encode_eq (l : Tl) (h : l.nodes < N) (hw : l.wf) (hl : L63 l) (hwt : l.wt ≤ 20000) : s_Encode N l.enc = some (encR l) := by
  unfold s_Encode encR
  rw [valid_eq N N l 1 h h hw hl (by omega), bnd1_mk, br_not]
  cases hok : okL 1 l with
  | false => rfl
  | true =>
    obtain ⟨s, s1, s2, s3, s4, s5⟩ := size_eq N N l 1 h h hw hl hwt hok
    simp only [br_t, if_true, s1, bnd1_mk, br_dec]
    by_cases hE : (encL l).length ≤ 4096
    · rw [if_pos hE, s2 (by omega), if_neg (by omega), encode_eq N N l h h hw hl hE, bnd1_mk]
    · rw [if_neg hE, if_pos (s3 (by omega))]
theorem Size_eq (l : Tl) (h : l.nodes < N) (hw : l.wf) (hl : L63 l) (hwt : l.wt ≤ 20000) : s_Size N l.enc = some ((encR l).1.length : Int) := by
  unfold s_Size
  rw [Encode_eq N l h hw hl hwt]; rfl
theorem rall_loop (f : List V → Option (List UInt8 × Bool)) (hf : ∀ (k : Tl), k.nodes < n → k.wf → L63 k → okL (d + 1) k = true → k.wt ≤ 20000 → f k.enc = some (if (encL k).length ≤ 4096 then (encL k, true) else ([], false))) :
    ∀ (l : Tl) (pre : List V) (t : Nat) (acc : List UInt8), l.len < t → l.nodes ≤ n → l.wf → pre.length + l.len ≤ 9223372036854775807 → okL d l = true → l.wt ≤ 20000 → acc.length ≤ 4096 →
      S_rall_3 N f (pre ++ l.enc) t acc (pre.length : Int) (fun l0 b1 l2 => some (l0, b1)) (fun l3 => some (l3, true)) = some (if acc.length + (encL l).length ≤ 4096 then (acc ++ encL l, true) else ([], false))
  | l, pre, 0, acc, ht, _, _, _, _, _, _ => by omega
  | .nil, pre, t + 1, acc, ht, _, _, _, _, _, ha => by
    unfold S_rall_3 F_rall_3
    simp only [Tl.enc, br_t, br_f, br_dec, br_not, br_and, br_or, bnd1_mk, bnd2_mk, bnd3_mk, bnd4_mk, at_zero, at_succ, at_mid, unInt_mk, unBool_mk, unStr_mk, unBytes_mk, unSl_mk, unAgg_mk, unCons_mk, unNil_mk, endI, if_false]
    simp [encL, ha]
  | .cons tg v k r, pre, t + 1, acc, ht, hn, hw, hl, hok, hwt, ha => by
    simp only [Tl.len, Tl.nodes, Tl.wt] at ht hn hl hwt
    obtain ⟨ht1, hv, hk1, hk2, hr⟩ := hw
    obtain ⟨h1, h2, h3, h4⟩ := stepI pre (.agg [.int .i64 tg, .bytes v, .sl 40 k.enc]) r.enc (by rw [Tl.enc_len]; exact hl)
    unfold okL at hok
    simp only [Bool.and_eq_true] at hok
    obtain ⟨⟨hd8, htv, hb⟩, hokr⟩ := hok
    have htr := tagV_range htv
    rw [encL_cons]
    have ht2 := tagB_len tg
    unfold S_rall_3 F_rall_3
    simp only [Tl.enc, br_t, br_f, br_dec, br_not, br_and, br_or, bnd1_mk, bnd2_mk, bnd3_mk, bnd4_mk, at_zero, at_succ, at_mid, unInt_mk, unBool_mk, unStr_mk, unBytes_mk, unSl_mk, unAgg_mk, unCons_mk, unNil_mk, h1, h2, if_true, Int.toNat_natCast, rConstructed_eq N tg ht1]
    have fin : ∀ (B : List UInt8), B.length ≤ 4096 → (bnd1 (s_rhead N tg (B.length : Int)) fun l59 =>
        if (acc.length + l59.length) * 1 ≤ 140737488355328 then
          if ((acc ++ l59).length + B.length) * 1 ≤ 140737488355328 then
            if 4096 < ((acc ++ l59 ++ B).length : Int) then some ([], false) else S_rall_3 N f (pre ++ .agg [.int .i64 tg, .bytes v, .sl 40 k.enc] :: r.enc) t (acc ++ l59 ++ B) (IntKind.i64.wrap ((pre.length : Int) + 1)) (fun l0 b1 l2 => some (l0, b1)) (fun l3 => some (l3, true))
          else none
        else none) = some (if acc.length + (tagB tg ++ lenB (B.length : Int) ++ B ++ encL r).length ≤ 4096 then (acc ++ (tagB tg ++ lenB (B.length : Int) ++ B ++ encL r), true) else ([], false)) := by
      intro B hB
      have hl2 := lenB_len (B.length : Int)
      rw [rhead_eq N tg _ (by omega) (by omega), bnd1_mk]
      simp only [List.length_append]
      rw [if_pos (by omega), if_pos (by omega)]
      by_cases c : 4096 < acc.length + ((tagB tg).length + (lenB (B.length : Int)).length) + B.length
      · rw [if_pos (by omega), if_neg (by omega)]
      · rw [if_neg (by omega)]
        have ih := rall_loop f hf r (pre ++ [.agg [.int .i64 tg, .bytes v, .sl 40 k.enc]]) t (acc ++ (tagB tg ++ lenB (B.length : Int)) ++ B) (by omega) (by omega) hr (by simp; omega) hokr (by omega) (by simp; omega)
        rw [← mid, ← h3] at ih
        rw [ih]
        simp only [List.length_append, List.append_assoc]
        congr 1
        by_cases c2 : acc.length + ((tagB tg).length + ((lenB (B.length : Int)).length + (B.length + (encL r).length))) ≤ 4096
        · rw [if_pos (by omega), if_pos (by omega)]
        · rw [if_neg (by omega), if_neg (by omega)]
    cases hc : tagC tg with
    | true =>
      rw [hc] at hb
      simp only [cond_true, Bool.and_eq_true] at hb
      rw [br_t, hf k (by omega) hk2 hk1 hb.2 (by omega)]
      simp only [cond_true]
      by_cases cE : (encL k).length ≤ 4096
      · rw [if_pos cE, bnd2_mk, br_t, if_neg (by omega)]
        exact fin (encL k) cE
      · rw [if_neg cE, bnd2_mk, br_f, if_neg (by simp only [List.length_append]; omega)]
    | false =>
      rw [br_f]
      simp only [cond_false]
      by_cases cE : v.length ≤ 4096
      · rw [if_neg (by omega)]
        exact fin v cE
      · rw [if_pos (by omega), if_neg (by simp only [List.length_append]; omega)]
theorem rall_eq (N : Nat) : ∀ (M : Nat) (l : Tl) (d : Int), l.nodes < M → l.nodes < N → l.wf → L63 l → okL d l = true → l.wt ≤ 20000 → s_rall N M l.enc = some (if (encL l).length ≤ 4096 then (encL l, true) else ([], false))
  | 0, l, d, h, _, _, _, _, _ => by omega
  | M + 1, l, d, h, hN, hw, hl, hok, hwt => by
    have := l.len_le
    have := rall_loop N l.nodes d (s_rall N M) (fun k hk hkw hkl hkok hkwt => rall_eq N M k (d + 1) (by omega) (by omega) hkw hkl hkok hkwt) l [] N [] (by omega) (Nat.le_refl _) hw (by simpa using hl) hok hwt (by simp)
    unfold s_rall B_rall
    simpa using this
theorem rEncode_eq (l : Tl) (h : l.nodes < N) (hw : l.wf) (hl : L63 l) (hwt : l.wt ≤ 20000) : s_rEncode N l.enc = some (encR l) := by
  unfold s_rEncode s_rRight encR
  rw [rright_eq N N l 1 h h hw hl (by omega), bnd1_mk, bnd1_mk, br_not]
  cases hok : okL 1 l with
  | false => rfl
  | true =>
    rw [br_t, rall_eq N N l 1 h h hw hl hok hwt]
    simp only [if_true]
    by_cases hE : (encL l).length ≤ 4096
    · rw [if_pos hE, if_pos hE]; rfl
    · rw [if_neg hE, if_neg hE]; rfl
end
end Go.Proofs.Ytdiieghcakhkdaa.En

/- Decoding data objects: what the program and the reference compute; there and back. -/
namespace Go.Proofs.Ytdiieghcakhkdaa.En
open Go
set_option linter.unusedVariables false
def rdTag : List UInt8 → Except Int (Int × List UInt8)
  | [] => .error 4
  | u :: r => if (u.toNat : Int) = 0 then .error 4 else if ¬ (u.toNat : Int) % 32 = 31 then .ok (u.toNat, r) else
    match r with
    | [] => .error 5
    | w :: r' => if tagV (256 * (u.toNat : Int) + w.toNat) = true then .ok (256 * (u.toNat : Int) + w.toNat, r') else .error 4
def rdLen : List UInt8 → Except Int (Int × List UInt8)
  | [] => .error 5
  | u :: r => if (u.toNat : Int) < 128 then .ok (u.toNat, r) else if (u.toNat : Int) = 129 then
      (match r with
       | [] => .error 5
       | w :: r' => if (w.toNat : Int) < 128 then .error 4 else .ok (w.toNat, r'))
    else if (u.toNat : Int) = 130 then
      (match r with
       | w :: x :: r' => if 256 * (w.toNat : Int) + x.toNat < 256 then .error 4 else .ok (256 * (w.toNat : Int) + x.toNat, r')
       | _ => .error 5)
    else .error 4
def triple : Except Int (Int × List UInt8) → Int × List UInt8 × Int
  | .error e => (0, [], e)
  | .ok (t, r) => (t, r, 0)
def tripleR (b : List UInt8) : Except Int (Int × List UInt8) → Int × Int × Int
  | .error e => (0, 0, e)
  | .ok (t, r) => (t, (b.length : Int) - r.length, 0)
theorem at_one {R α : Type} (x y : α) (r : List α) (K : α → Option R) : at? (x :: y :: r) 1 K = K y := rfl
theorem at_two {R α : Type} (x y z : α) (r : List α) (K : α → Option R) : at? (x :: y :: z :: r) 2 K = K z := rfl
theorem shl8_or' (u w : UInt8) : bitsI .or .i64 (shlI .i64 (u.toNat : Int) 8) (w.toNat : Int) = 256 * (u.toNat : Int) + w.toNat := by
  have := u8_lt u; have := u8_lt w
  exact shl8_or _ _ (by omega) (by omega) (by omega) (by omega)
theorem or0' (w : UInt8) : bitsI .or .i64 0 (w.toNat : Int) = w.toNat := by have := u8_lt w; exact or0 _ (by omega) this
theorem w256 (u w : UInt8) : IntKind.i64.wrap (IntKind.i64.wrap (256 * (u.toNat : Int)) + (w.toNat : Int)) = 256 * (u.toNat : Int) + w.toNat := by
  have := u8_lt u; have := u8_lt w
  rw [w64 (n := 256 * (u.toNat : Int)) (by omega) (by omega), w64 (by omega) (by omega)]
theorem tmod32 (u : UInt8) : (u.toNat : Int).tmod 32 = (u.toNat : Int) % 32 := Int.tmod_eq_emod_of_nonneg (by omega)
theorem tripleR_ok (b : List UInt8) (t : Int) (r : List UInt8) (k : Int) (h : k = (b.length : Int) - r.length) : (some (t, k, 0) : Option (Int × Int × Int)) = some (tripleR b (.ok (t, r))) := by rw [h]; rfl
theorem tag_eq (N : Nat) (b : List UInt8) (h : b ≠ []) : s_tag N b = some (triple (rdTag b)) := by
  match b, h with
  | [u], _ =>
    have hl : (([u] : List UInt8).length : Int) = 1 := rfl
    unfold s_tag rdTag
    simp only [br_t, br_f, br_dec, br_not, br_and, br_or, bnd1_mk, bnd2_mk, bnd3_mk, bnd4_mk, at_zero, w64_u8, and31, List.drop_succ_cons, List.drop_zero, hl, (by decide : (0 : Int) < 1), (by decide : (1 : Int) ≤ 1), (by decide : (1 : Int) < 2), if_true]
    by_cases c0 : (u.toNat : Int) = 0
    · simp only [c0, if_true]; rfl
    · by_cases c1 : (u.toNat : Int) % 32 = 31
      · simp only [c0, c1, if_true, if_false, not_true]; rfl
      · simp only [c0, c1, if_true, if_false, not_false_iff]; rfl
  | u :: w :: r', _ =>
    have hu := u8_lt u
    have hw := u8_lt w
    have hl : ((u :: w :: r').length : Int) = r'.length + 2 := by simp; omega
    have f1 : (0 : Int) < r'.length + 2 := by omega
    have f2 : (1 : Int) ≤ r'.length + 2 := by omega
    have f3 : ¬ ((r'.length : Int) + 2 < 2) := by omega
    have f4 : (1 : Int) < r'.length + 2 := by omega
    have f5 : (2 : Int) ≤ r'.length + 2 := by omega
    unfold s_tag rdTag
    simp only [br_t, br_f, br_dec, br_not, br_and, br_or, bnd1_mk, bnd2_mk, bnd3_mk, bnd4_mk, at_zero, at_one, w64_u8, and31, shl8_or', List.drop_succ_cons, List.drop_zero, hl, f1, f2, f3, f4, f5, if_true, if_false, Valid_eq N (256 * (u.toNat : Int) + w.toNat) ⟨by omega, by omega⟩]
    by_cases c0 : (u.toNat : Int) = 0
    · simp only [c0, if_true]; rfl
    · by_cases c1 : (u.toNat : Int) % 32 = 31
      · simp only [c0, c1, if_true, if_false, not_true]
        cases hv : tagV (256 * (u.toNat : Int) + w.toNat) <;> rfl
      · simp only [c0, c1, if_true, if_false, not_false_iff]; rfl
theorem length_eq (N : Nat) (b : List UInt8) : s_length N b = some (triple (rdLen b)) := by
  match b with
  | [] => rfl
  | u :: r =>
    have hl : ((u :: r).length : Int) = r.length + 1 := by simp
    have f0 : ¬ ((r.length : Int) + 1 = 0) := by omega
    have f1 : (0 : Int) < r.length + 1 := by omega
    have f2 : (1 : Int) ≤ r.length + 1 := by omega
    unfold s_length rdLen
    simp only [br_t, br_f, br_dec, br_not, br_and, br_or, bnd1_mk, bnd2_mk, bnd3_mk, bnd4_mk, at_zero, w64_u8, or0', shl8_or', List.drop_succ_cons, List.drop_zero, hl, f0, f1, f2, if_true, if_false]
    by_cases c0 : (u.toNat : Int) < 128
    · simp only [c0, if_true]; rfl
    · by_cases c1 : (u.toNat : Int) = 129
      · simp only [c1, if_true, (by decide : ¬ ((129 : Int) < 128)), if_false]
        match r with
        | [] => rfl
        | w :: r' =>
          have hl : ((w :: r').length : Int) = r'.length + 1 := by simp
          have g0 : ¬ ((r'.length : Int) + 1 < 1) := by omega
          have g1 : (0 : Int) < r'.length + 1 := by omega
          have g2 : (1 : Int) ≤ r'.length + 1 := by omega
          have e0 : ∀ (K : UInt8 → Option (Int × List UInt8 × Int)), at? (w :: r') 0 K = K w := fun _ => rfl
          simp only [hl, g0, g1, g2, if_true, if_false]
          rw [e0]
          by_cases c2 : (w.toNat : Int) < 128
          · simp only [c2, if_true]; rfl
          · simp only [c2, if_false]; rfl
      · by_cases c2 : (u.toNat : Int) = 130
        · simp only [c2, if_true, (by decide : ¬ ((130 : Int) < 128)), (by decide : ¬ ((130 : Int) = 129)), if_false]
          match r with
          | [] => rfl
          | [w] => rfl
          | w :: x :: r' =>
            have hl : ((w :: x :: r').length : Int) = r'.length + 2 := by simp; omega
            have hl2 : ((x :: r').length : Int) = r'.length + 1 := by simp
            have g0 : ¬ ((r'.length : Int) + 2 < 2) := by omega
            have g1 : (0 : Int) < r'.length + 2 := by omega
            have g2 : (1 : Int) ≤ r'.length + 2 := by omega
            have g3 : (0 : Int) < r'.length + 1 := by omega
            have g4 : (1 : Int) ≤ r'.length + 1 := by omega
            have e0 : ∀ (K : UInt8 → Option (Int × List UInt8 × Int)), at? (w :: x :: r') 0 K = K w := fun _ => rfl
            have e1 : ∀ (K : UInt8 → Option (Int × List UInt8 × Int)), at? (x :: r') 0 K = K x := fun _ => rfl
            simp only [hl, g0, g1, g2, if_true, if_false, List.drop_succ_cons, List.drop_zero]
            rw [e0]
            simp only [hl2, g3, g4, if_true]
            rw [e1]
            by_cases c3 : 256 * (w.toNat : Int) + x.toNat < 256
            · simp only [c3, if_true]; rfl
            · simp only [c3, if_false]; rfl
        · simp only [c0, c1, c2, if_false]; rfl
theorem rtag_eq (N : Nat) (b : List UInt8) (h : b ≠ []) : s_rtag N b = some (tripleR b (rdTag b)) := by
  match b, h with
  | [u], _ =>
    have hl : (([u] : List UInt8).length : Int) = 1 := rfl
    unfold s_rtag rdTag
    simp only [br_t, br_f, br_dec, br_not, br_and, br_or, bnd1_mk, bnd2_mk, bnd3_mk, bnd4_mk, at_zero, w64_u8, tmod32, hl, (by decide : (0 : Int) < 1), (by decide : (1 : Int) < 2), if_true]
    by_cases c0 : (u.toNat : Int) = 0
    · simp only [c0, if_true]; rfl
    · by_cases c1 : (u.toNat : Int) % 32 = 31
      · simp only [c0, c1, if_true, if_false, not_true]; rfl
      · simp only [c0, c1, if_true, if_false, not_false_iff]; rfl
  | u :: w :: r', _ =>
    have hu := u8_lt u
    have hw := u8_lt w
    have hl : ((u :: w :: r').length : Int) = r'.length + 2 := by simp; omega
    have f1 : (0 : Int) < r'.length + 2 := by omega
    have f3 : ¬ ((r'.length : Int) + 2 < 2) := by omega
    have f4 : (1 : Int) < r'.length + 2 := by omega
    unfold s_rtag rdTag
    simp only [br_t, br_f, br_dec, br_not, br_and, br_or, bnd1_mk, bnd2_mk, bnd3_mk, bnd4_mk, at_zero, at_one, w64_u8, tmod32, w256, hl, f1, f3, f4, if_true, if_false]
    by_cases c0 : (u.toNat : Int) = 0
    · simp only [c0, if_true]; rfl
    · by_cases c1 : (u.toNat : Int) % 32 = 31
      · simp only [c0, c1, if_true, if_false, not_true]
        by_cases c2 : (w.toNat : Int) < 31
        · rw [if_neg (show ¬ (tagV (256 * (u.toNat : Int) + w.toNat) = true) by simp [tagV]; omega)]
          simp only [c2, if_true]; rfl
        · by_cases c3 : 127 < (w.toNat : Int)
          · rw [if_neg (show ¬ (tagV (256 * (u.toNat : Int) + w.toNat) = true) by simp [tagV]; omega)]
            simp only [c2, c3, if_true, if_false]; rfl
          · rw [if_pos (show tagV (256 * (u.toNat : Int) + w.toNat) = true by simp [tagV]; omega)]
            simp only [c2, c3, if_false]
            apply tripleR_ok; rw [hl]; omega
      · simp only [c0, c1, if_true, if_false, not_false_iff]
        apply tripleR_ok; simp only [List.length_cons]; omega
theorem rlength_eq (N : Nat) (b : List UInt8) : s_rlength N b = some (tripleR b (rdLen b)) := by
  match b with
  | [] => rfl
  | u :: r =>
    have hl : ((u :: r).length : Int) = r.length + 1 := by simp
    have f0 : ¬ ((r.length : Int) + 1 < 1) := by omega
    have f1 : (0 : Int) < r.length + 1 := by omega
    unfold s_rlength rdLen
    simp only [br_t, br_f, br_dec, br_not, br_and, br_or, bnd1_mk, bnd2_mk, bnd3_mk, bnd4_mk, at_zero, w64_u8, w256, hl, f0, f1, if_true, if_false]
    by_cases c0 : (u.toNat : Int) < 128
    · simp only [c0, if_true]
      apply tripleR_ok; simp only [List.length_cons]; omega
    · by_cases c1 : (u.toNat : Int) = 129
      · simp only [c1, if_true, (by decide : ¬ ((129 : Int) < 128)), if_false]
        match r with
        | [] => rfl
        | w :: r' =>
          have hl : ((w :: r').length : Int) + 1 = r'.length + 2 := by simp; omega
          have g0 : ¬ ((r'.length : Int) + 2 < 2) := by omega
          have g1 : (1 : Int) < r'.length + 2 := by omega
          have e0 : ∀ (K : UInt8 → Option (Int × Int × Int)), at? (u :: w :: r') 1 K = K w := fun _ => rfl
          simp only [hl, g0, g1, if_true, if_false]
          rw [e0]
          by_cases c2 : (w.toNat : Int) < 128
          · simp only [c2, if_true]; rfl
          · simp only [c2, if_false]
            apply tripleR_ok; simp only [List.length_cons]; omega
      · by_cases c2 : (u.toNat : Int) = 130
        · simp only [c2, if_true, (by decide : ¬ ((130 : Int) < 128)), (by decide : ¬ ((130 : Int) = 129)), if_false]
          match r with
          | [] => rfl
          | [w] => rfl
          | w :: x :: r' =>
            have hl : ((w :: x :: r').length : Int) + 1 = r'.length + 3 := by simp; omega
            have g0 : ¬ ((r'.length : Int) + 3 < 3) := by omega
            have g1 : (1 : Int) < r'.length + 3 := by omega
            have g2 : (2 : Int) < r'.length + 3 := by omega
            have e0 : ∀ (K : UInt8 → Option (Int × Int × Int)), at? (u :: w :: x :: r') 1 K = K w := fun _ => rfl
            have e1 : ∀ (K : UInt8 → Option (Int × Int × Int)), at? (u :: w :: x :: r') 2 K = K x := fun _ => rfl
            simp only [hl, g0, g1, g2, if_true, if_false]
            rw [e0, e1]
            by_cases c3 : 256 * (w.toNat : Int) + x.toNat < 256
            · simp only [c3, if_true]; rfl
            · simp only [c3, if_false]
              apply tripleR_ok; simp only [List.length_cons]; omega
        · simp only [c0, c1, c2, if_false]; rfl
end Go.Proofs.Ytdiieghcakhkdaa.En

/- Decoding lists of data objects. -/
namespace Go.Proofs.Ytdiieghcakhkdaa.En
open Go
set_option linter.unusedVariables false
def dec : Nat → Int → List UInt8 → Except Int Tl
  | 0, _, _ => .error 4
  | n + 1, d, b =>
    if b.length = 0 then .ok .nil else if 8 < d then .error 4 else
    match rdTag b with
    | .error e => .error e
    | .ok (t, r) => match rdLen r with
      | .error e => .error e
      | .ok (m, r') =>
        if (r'.length : Int) < m then .error 5
        else if tagC t = true then
          (match dec n (d + 1) (r'.take m.toNat) with
           | .error e => .error e
           | .ok k => match dec n d (r'.drop m.toNat) with
             | .error e => .error e
             | .ok l => .ok (.cons t [] k l))
        else
          (match dec n d (r'.drop m.toNat) with
           | .error e => .error e
           | .ok l => .ok (.cons t (r'.take m.toNat) .nil l))
theorem rdTag_ok {b r : List UInt8} {t : Int} (h : rdTag b = .ok (t, r)) : tagV t = true ∧ b = tagB t ++ r := by
  match b, h with
  | u :: r0, h =>
    have hu := u8_lt u
    unfold rdTag at h
    dsimp only at h
    by_cases c0 : (u.toNat : Int) = 0
    · rw [if_pos c0] at h; cases h
    · rw [if_neg c0] at h
      by_cases c1 : (u.toNat : Int) % 32 = 31
      · rw [if_neg (fun h => h c1)] at h
        match r0, h with
        | w :: r', h =>
          have hw := u8_lt w
          simp only at h
          by_cases hv : tagV (256 * (u.toNat : Int) + w.toNat) = true
          · rw [if_pos hv] at h
            injection h with h
            injection h with e1 e2
            subst e1 e2
            refine ⟨hv, ?_⟩
            unfold tagB
            simp [tagV] at hv
            rw [if_pos (by omega), byteI_eq (u := u) (by omega), byteI_eq (u := w) (by omega)]; rfl
          · rw [if_neg hv] at h; cases h
      · rw [if_pos c1] at h
        injection h with h
        injection h with e1 e2
        subst e1 e2
        refine ⟨by simp [tagV]; omega, ?_⟩
        unfold tagB
        rw [if_neg (by omega), byteI_u8]; rfl
set_option maxRecDepth 100000 in
theorem rdTag_err {b : List UInt8} {e : Int} (h : rdTag b = .error e) : e = 4 ∨ e = 5 := by
  unfold rdTag at h
  repeat' split at h
  all_goals first | cases h | skip
  all_goals simp
set_option maxRecDepth 100000 in
theorem rdLen_ok {b r : List UInt8} {m : Int} (h : rdLen b = .ok (m, r)) : 0 ≤ m ∧ m ≤ 65535 ∧ b = lenB m ++ r := by
  match b, h with
  | u :: r0, h =>
    have hu := u8_lt u
    unfold rdLen at h
    dsimp only at h
    by_cases c0 : (u.toNat : Int) < 128
    · rw [if_pos c0] at h
      injection h with h
      injection h with e1 e2
      subst e1 e2
      refine ⟨by omega, by omega, ?_⟩
      unfold lenB
      rw [if_pos c0, byteI_u8]; rfl
    · rw [if_neg c0] at h
      by_cases c1 : (u.toNat : Int) = 129
      · rw [if_pos c1] at h
        match r0, h with
        | w :: r', h =>
          have hw := u8_lt w
          simp only at h
          by_cases c2 : (w.toNat : Int) < 128
          · rw [if_pos c2] at h; cases h
          · rw [if_neg c2] at h
            injection h with h
            injection h with e1 e2
            subst e1 e2
            refine ⟨by omega, by omega, ?_⟩
            unfold lenB
            rw [if_neg c2, if_pos hw, byteI_u8]
            have : u = 129 := by apply UInt8.toNat_inj.1; show u.toNat = 129; omega
            rw [this]; rfl
      · rw [if_neg c1] at h
        by_cases c2 : (u.toNat : Int) = 130
        · rw [if_pos c2] at h
          match r0, h with
          | w :: x :: r', h =>
            have hw := u8_lt w
            have hx := u8_lt x
            simp only at h
            by_cases c3 : 256 * (w.toNat : Int) + x.toNat < 256
            · rw [if_pos c3] at h; cases h
            · rw [if_neg c3] at h
              injection h with h
              injection h with e1 e2
              subst e1 e2
              refine ⟨by omega, by omega, ?_⟩
              unfold lenB
              rw [if_neg (by omega), if_neg c3, byteI_eq (u := w) (by omega), byteI_eq (u := x) (by omega)]
              have : u = 130 := by apply UInt8.toNat_inj.1; show u.toNat = 130; omega
              rw [this]; rfl
        · rw [if_neg c2] at h; cases h
set_option maxRecDepth 100000 in
theorem rdLen_err {b : List UInt8} {e : Int} (h : rdLen b = .error e) : e = 4 ∨ e = 5 := by
  match b, h with
  | [], h => injection h with h; exact .inr h.symm
  | u :: r, h =>
    unfold rdLen at h
    dsimp only at h
    by_cases c0 : (u.toNat : Int) < 128
    · rw [if_pos c0] at h; cases h
    · rw [if_neg c0] at h
      by_cases c1 : (u.toNat : Int) = 129
      · rw [if_pos c1] at h
        match r, h with
        | [], h => injection h with h; exact .inr h.symm
        | w :: r', h =>
          dsimp only at h
          by_cases c2 : (w.toNat : Int) < 128
          · rw [if_pos c2] at h; injection h with h; exact .inl h.symm
          · rw [if_neg c2] at h; cases h
      · rw [if_neg c1] at h
        by_cases c2 : (u.toNat : Int) = 130
        · rw [if_pos c2] at h
          match r, h with
          | [], h => injection h with h; exact .inr h.symm
          | [w], h => injection h with h; exact .inr h.symm
          | w :: x :: r', h =>
            dsimp only at h
            by_cases c3 : 256 * (w.toNat : Int) + x.toNat < 256
            · rw [if_pos c3] at h; injection h with h; exact .inl h.symm
            · rw [if_neg c3] at h; cases h
        · rw [if_neg c2] at h; injection h with h; exact .inl h.symm
theorem rdTag_put {t : Int} (h : tagV t = true) (x : List UInt8) : rdTag (tagB t ++ x) = .ok (t, x) := by
  have h' := h
  simp [tagV] at h'
  unfold tagB
  by_cases c : 255 < t
  · rw [if_pos c]
    show rdTag (byteI (t / 256) :: byteI t :: x) = _
    unfold rdTag
    simp only [byteI_toNat]
    rw [if_neg (by omega), if_neg (by omega)]
    have e : 256 * (t / 256 % 256) + t % 256 = t := by omega
    rw [e, if_pos h]
  · rw [if_neg c]
    show rdTag (byteI t :: x) = _
    unfold rdTag
    simp only [byteI_toNat]
    rw [if_neg (by omega), if_pos (by omega)]
    congr 2; omega
theorem rdLen_put {m : Int} (h0 : 0 ≤ m) (h1 : m ≤ 65535) (x : List UInt8) : rdLen (lenB m ++ x) = .ok (m, x) := by
  unfold lenB
  by_cases c : m < 128
  · rw [if_pos c]
    show rdLen (byteI m :: x) = _
    unfold rdLen
    simp only [byteI_toNat]
    rw [if_pos (by omega)]; congr 2; omega
  · rw [if_neg c]
    by_cases c2 : m < 256
    · rw [if_pos c2]
      show rdLen (129 :: byteI m :: x) = _
      unfold rdLen
      simp only [byteI_toNat]
      rw [if_neg (by decide), if_pos (by decide), if_neg (by omega)]; congr 2; omega
    · rw [if_neg c2]
      show rdLen (130 :: byteI (m / 256) :: byteI m :: x) = _
      unfold rdLen
      simp only [byteI_toNat]
      rw [if_neg (by decide), if_neg (by decide), if_pos (by decide), if_neg (by omega)]; congr 2; omega
theorem dec_err : ∀ (n : Nat) (d : Int) (b : List UInt8) (e : Int), dec n d b = .error e → e = 4 ∨ e = 5
  | 0, d, b, e, h => by simp [dec] at h; omega
  | n + 1, d, b, e, h => by
    unfold dec at h
    split at h
    · cases h
    · split at h
      · injection h with h; omega
      · split at h
        · rename_i e' he; injection h with h; subst h; exact rdTag_err he
        · split at h
          · rename_i e' he; injection h with h; subst h; exact rdLen_err he
          · split at h
            · injection h with h; omega
            · split at h
              · split at h
                · rename_i e' he; injection h with h; subst h; exact dec_err n _ _ _ he
                · split at h
                  · rename_i e' he; injection h with h; subst h; exact dec_err n _ _ _ he
                  · cases h
              · split at h
                · rename_i e' he; injection h with h; subst h; exact dec_err n _ _ _ he
                · cases h
/-- Enough fuel is enough. -/
theorem dec_fuel : ∀ (n : Nat) (m : Nat) (d : Int) (b : List UInt8), b.length < n → b.length < m → dec n d b = dec m d b
  | 0, m, d, b, h, _ => by omega
  | n + 1, 0, d, b, _, h => by omega
  | n + 1, m + 1, d, b, h1, h2 => by
    unfold dec
    split
    · rfl
    · split
      · rfl
      · split
        · rfl
        · rename_i t r hr
          obtain ⟨_, e1⟩ := rdTag_ok hr
          have ht := tagB_len t
          have hb : b.length = (tagB t).length + r.length := by rw [e1, List.length_append]
          split
          · rfl
          · rename_i q r' hr'
            obtain ⟨_, _, e2⟩ := rdLen_ok hr'
            have hl := lenB_len q
            have hb2 : r.length = (lenB q).length + r'.length := by rw [e2, List.length_append]
            have i1 := dec_fuel n m (d + 1) (r'.take q.toNat) (by rw [List.length_take]; omega) (by rw [List.length_take]; omega)
            have i2 := dec_fuel n m d (r'.drop q.toNat) (by rw [List.length_drop]; omega) (by rw [List.length_drop]; omega)
            rw [i1, i2]
/-- What is encoded is decoded. -/
theorem dec_enc : ∀ (l : Tl) (n : Nat) (d : Int), okL d l = true → (encL l).length ≤ 65535 → (encL l).length < n → dec n d (encL l) = .ok l
  | .nil, 0, d, _, _, h => by simp at h
  | .nil, n + 1, d, _, _, _ => by unfold dec; rw [if_pos (by rfl)]
  | .cons t v k r, 0, d, _, _, h => by simp at h
  | .cons t v k r, n + 1, d, hok, hE, hn => by
    unfold okL at hok
    simp only [Bool.and_eq_true, decide_eq_true_eq] at hok
    obtain ⟨⟨hd8, htv, hb⟩, hokr⟩ := hok
    have ht := tagB_len t
    have hl := lenB_len ((bif tagC t then encL k else v).length : Int)
    unfold dec
    rw [encL_cons] at hE hn ⊢
    generalize hB : (bif tagC t then encL k else v) = B at *
    simp only [List.length_append] at hE hn
    rw [if_neg (by simp only [List.length_append]; omega), if_neg (by omega)]
    rw [List.append_assoc, List.append_assoc, rdTag_put htv]
    simp only
    rw [rdLen_put (by omega) (by omega)]
    simp only
    rw [if_neg (by simp only [List.length_append]; omega)]
    rw [Int.toNat_natCast, List.take_left, List.drop_left]
    rw [dec_enc r n d hokr (by omega) (by omega)]
    cases hc : tagC t with
    | true =>
      rw [hc] at hB hb
      simp only [cond_true, Bool.and_eq_true] at hB hb
      subst hB
      rw [if_pos rfl, dec_enc k n (d + 1) hb.2 (by omega) (by omega)]
      have hv0 : v = [] := by cases v with | nil => rfl | cons a b => simp at hb
      rw [hv0]
    | false =>
      rw [hc] at hB hb
      simp only [cond_false] at hB hb
      subst hB
      have hk0 : k = .nil := by cases k with | nil => rfl | cons a b c d => simp [Tl.isNil] at hb
      rw [if_neg (by simp), hk0]
/-- What is decoded is encoded to the same bytes. -/
theorem enc_dec : ∀ (n : Nat) (d : Int) (b : List UInt8) (l : Tl), dec n d b = .ok l → okL d l = true ∧ encL l = b ∧ l.wt ≤ b.length ∧ l.wf
  | 0, d, b, l, h => by simp [dec] at h
  | n + 1, d, b, l, h => by
    unfold dec at h
    split at h
    · rename_i h0
      injection h with h
      subst h
      have : b = [] := List.length_eq_zero_iff.1 h0
      subst this
      exact ⟨rfl, rfl, Nat.le_refl _, trivial⟩
    · split at h
      · cases h
      · rename_i hd8
        split at h
        · cases h
        · rename_i t r hr
          obtain ⟨hv, e1⟩ := rdTag_ok hr
          have hvr := tagV_range hv
          have ht := tagB_len t
          have hb : b.length = (tagB t).length + r.length := by rw [e1, List.length_append]
          split at h
          · cases h
          · rename_i q r' hr'
            obtain ⟨hq0, hq1, e2⟩ := rdLen_ok hr'
            have hl := lenB_len q
            have hb2 : r.length = (lenB q).length + r'.length := by rw [e2, List.length_append]
            split at h
            · cases h
            · rename_i hlt
              have htake : (r'.take q.toNat).length = q.toNat := by rw [List.length_take]; omega
              have hdrop : (r'.drop q.toNat).length = r'.length - q.toNat := List.length_drop ..
              have hqq : ((r'.take q.toNat).length : Int) = q := by omega
              split at h
              · rename_i hc
                split at h
                · cases h
                · rename_i k hk
                  obtain ⟨k1, k2, k3, k4⟩ := enc_dec n _ _ _ hk
                  split at h
                  · cases h
                  · rename_i l' hl'
                    obtain ⟨l1, l2, l3, l4⟩ := enc_dec n _ _ _ hl'
                    injection h with h
                    subst h
                    refine ⟨by simp [okL, hv, hc, k1, l1]; omega, ?_, by simp only [Tl.wt, List.length_nil]; omega, ⟨by omega, by simp, ?_, k4, l4⟩⟩
                    · rw [encL_cons, hc, cond_true, k2, l2, hqq, e1, e2]
                      simp only [List.append_assoc, List.take_append_drop]
                    · have := k.len_wt; omega
              · rename_i hc
                split at h
                · cases h
                · rename_i l' hl'
                  obtain ⟨l1, l2, l3, l4⟩ := enc_dec n _ _ _ hl'
                  injection h with h
                  subst h
                  have hc' : tagC t = false := by simpa using hc
                  refine ⟨by simp [okL, hv, hc', l1, Tl.isNil]; omega, ?_, by simp only [Tl.wt]; omega, ⟨by omega, ?_, by simp [Tl.len], trivial, l4⟩⟩
                  · rw [encL_cons, hc', cond_false, l2, hqq, e1, e2]
                    simp only [List.append_assoc, List.take_append_drop]
                  · omega
end Go.Proofs.Ytdiieghcakhkdaa.En

/- Decode, of the program and of the reference. -/
namespace Go.Proofs.Ytdiieghcakhkdaa.En
open Go
set_option linter.unusedVariables false
def decP (acc : List V) : Except Int Tl → List V × Int
  | .ok l => (acc ++ l.enc, 0)
  | .error e => ([], e)
theorem decode_loop (N : Nat) (f : List UInt8 → Int → Option (List V × Int)) (d : Int) (hd : 1 ≤ d ∧ d ≤ 9) (n : Nat) (hf : d ≤ 8 → ∀ (b : List UInt8), b.length < n → f b (d + 1) = some (decP [] (dec n (d + 1) b))) :
    ∀ (t : Nat) (b : List UInt8) (acc : List V), b.length < t → b.length ≤ n → b.length ≤ 4096 → acc.length + b.length ≤ 4096 →
      S_decode_2 N f d t b acc (fun l0 n1 l2 => some (l0, n1)) (fun l3 => some (l3, 0)) = some (decP acc (dec (n + 1) d b))
  | 0, b, acc, ht, _, _, _ => by omega
  | t + 1, b, acc, ht, hn, hb, ha => by
    unfold S_decode_2 F_decode_2 dec
    simp only [br_dec, br_not, br_and]
    by_cases h0 : b.length = 0
    · rw [if_pos h0, if_neg (by omega)]; simp [decP, Tl.enc]
    · rw [if_neg h0, if_pos (by omega)]
      by_cases h8 : 8 < d
      · rw [if_pos h8, if_pos h8]; rfl
      · rw [if_neg h8, if_neg h8]
        have hbn : b ≠ [] := fun e => h0 (by rw [e]; rfl)
        rw [tag_eq N b hbn]
        cases hr : rdTag b with
        | error e =>
          have := rdTag_err hr
          simp only [triple, bnd3_mk]
          rw [if_neg (by omega)]; rfl
        | ok p =>
          obtain ⟨tg, r⟩ := p
          obtain ⟨hv, e1⟩ := rdTag_ok hr
          have hvr := tagV_range hv
          have ht2 := tagB_len tg
          have hbl : b.length = (tagB tg).length + r.length := by rw [e1, List.length_append]
          simp only [triple, bnd3_mk, if_true]
          rw [length_eq N r]
          cases hr' : rdLen r with
          | error e =>
            have := rdLen_err hr'
            simp only [triple, bnd3_mk]
            rw [if_neg (by omega)]; rfl
          | ok p =>
            obtain ⟨m, r'⟩ := p
            obtain ⟨hm0, hm1, e2⟩ := rdLen_ok hr'
            have hl2 := lenB_len m
            have hrl : r.length = (lenB m).length + r'.length := by rw [e2, List.length_append]
            simp only [triple, bnd3_mk, if_true]
            by_cases hlt : (r'.length : Int) < m
            · rw [if_pos hlt, if_pos hlt]; rfl
            · rw [if_neg hlt, if_neg hlt, Constructed_eq N tg ⟨by omega, by omega⟩, bnd1_mk]
              have htake : (r'.take m.toNat).length = m.toNat := by rw [List.length_take]; omega
              have hdrop : (r'.drop m.toNat).length = r'.length - m.toNat := List.length_drop ..
              have f1 : (0 : Int) ≤ m := hm0
              have f2 : m ≤ (r'.length : Int) := by omega
              have wd : IntKind.i64.wrap (d + 1) = d + 1 := w64 (by omega) (by omega)
              have g2 : (acc.length + (0 + 1)) * 56 ≤ 140737488355328 := by omega
              have g1 : (0 + (r'.take m.toNat).length) * 1 ≤ 140737488355328 := by omega
              simp only [f1, f2, if_true, List.length_cons, List.length_nil, wd, g1, g2]
              have efu : ∀ (b' : List UInt8), b'.length < n → dec n d b' = dec (n + 1) d b' := fun b' h => dec_fuel n (n + 1) d b' h (by omega)
              cases hc : tagC tg with
              | true =>
                rw [br_t, if_pos rfl, hf (by omega) _ (by omega)]
                cases hk : dec n (d + 1) (r'.take m.toNat) with
                | error e =>
                  have := dec_err _ _ _ _ hk
                  simp only [decP, bnd2_mk]
                  rw [if_neg (by omega)]
                | ok k =>
                  simp only [decP, bnd2_mk, if_true]
                  rw [decode_loop N f d hd n hf t (r'.drop m.toNat) _ (by omega) (by omega) (by omega) (by simp; omega), ← efu _ (by omega)]
                  cases dec n d (r'.drop m.toNat) with
                  | error e => rfl
                  | ok l => simp [decP, Tl.enc]
              | false =>
                rw [br_f, if_neg (by simp)]
                unfold s_clone
                rw [br_dec, if_pos (by omega), bnd1_mk]
                rw [decode_loop N f d hd n hf t (r'.drop m.toNat) _ (by omega) (by omega) (by omega) (by simp; omega), ← efu _ (by omega)]
                cases dec n d (r'.drop m.toNat) with
                | error e => rfl
                | ok l => simp [decP, Tl.enc]
theorem decode_eq (N : Nat) (hN : 4096 < N) : ∀ (M : Nat) (b : List UInt8) (d : Int), 1 ≤ d → d ≤ 9 → 9 < d + M → b.length ≤ 4096 → s_decode N M b d = some (decP [] (dec (b.length + 1) d b))
  | 0, b, d, h1, h2, h, _ => by omega
  | M + 1, b, d, h1, h2, h, hb => by
    unfold s_decode B_decode
    exact decode_loop N (s_decode N M) d ⟨h1, h2⟩ b.length (fun h8 b' hb' => by
      rw [decode_eq N hN M b' (d + 1) (by omega) (by omega) (by omega) (by omega), dec_fuel (b'.length + 1) b.length (d + 1) b' (by omega) hb']) N b [] (by omega) (Nat.le_refl _) hb (by simpa using hb)
theorem rread_loop (N : Nat) (f : List UInt8 → Int → Option (List V × Int)) (d : Int) (hd : 1 ≤ d ∧ d ≤ 9) (n : Nat) (hf : d ≤ 8 → ∀ (b : List UInt8), b.length < n → f b (d + 1) = some (decP [] (dec n (d + 1) b))) :
    ∀ (t : Nat) (b : List UInt8) (acc : List V), b.length < t → b.length ≤ n → b.length ≤ 4096 → acc.length + b.length ≤ 4096 →
      S_rread_2 N f d t b acc (fun l0 n1 l2 => some (l0, n1)) (fun l3 => some (l3, 0)) = some (decP acc (dec (n + 1) d b))
  | 0, b, acc, ht, _, _, _ => by omega
  | t + 1, b, acc, ht, hn, hb, ha => by
    unfold S_rread_2 F_rread_2 dec
    simp only [br_dec, br_not, br_and]
    by_cases h0 : b.length = 0
    · rw [if_pos h0, if_neg (by omega)]; simp [decP, Tl.enc]
    · rw [if_neg h0, if_pos (by omega)]
      by_cases h8 : 8 < d
      · rw [if_pos h8, if_pos h8]; rfl
      · rw [if_neg h8, if_neg h8]
        have hbn : b ≠ [] := fun e => h0 (by rw [e]; rfl)
        rw [rtag_eq N b hbn]
        cases hr : rdTag b with
        | error e =>
          have := rdTag_err hr
          simp only [tripleR, bnd3_mk]
          rw [if_neg (by omega)]; rfl
        | ok p =>
          obtain ⟨tg, r⟩ := p
          obtain ⟨hv, e1⟩ := rdTag_ok hr
          have hvr := tagV_range hv
          have ht2 := tagB_len tg
          have hbl : b.length = (tagB tg).length + r.length := by rw [e1, List.length_append]
          have ed : b.drop ((b.length : Int) - (r.length : Int)).toNat = r := by
            rw [show ((b.length : Int) - (r.length : Int)).toNat = (tagB tg).length by omega, e1, List.drop_left]
          simp only [tripleR, bnd3_mk, if_true, ed]
          rw [if_pos (by omega), if_pos (by omega), rlength_eq N r]
          cases hr' : rdLen r with
          | error e =>
            have := rdLen_err hr'
            simp only [tripleR, bnd3_mk]
            rw [if_neg (by omega)]; rfl
          | ok p =>
            obtain ⟨m, r'⟩ := p
            obtain ⟨hm0, hm1, e2⟩ := rdLen_ok hr'
            have hl2 := lenB_len m
            have hrl : r.length = (lenB m).length + r'.length := by rw [e2, List.length_append]
            have ed2 : r.drop ((r.length : Int) - (r'.length : Int)).toNat = r' := by
              rw [show ((r.length : Int) - (r'.length : Int)).toNat = (lenB m).length by omega, e2, List.drop_left]
            simp only [tripleR, bnd3_mk, if_true, ed2]
            rw [if_pos (by omega), if_pos (by omega)]
            by_cases hlt : (r'.length : Int) < m
            · rw [if_pos hlt, if_pos hlt]; rfl
            · rw [if_neg hlt, if_neg hlt, rConstructed_eq N tg ⟨by omega, by omega⟩, bnd1_mk]
              have htake : (r'.take m.toNat).length = m.toNat := by rw [List.length_take]; omega
              have hdrop : (r'.drop m.toNat).length = r'.length - m.toNat := List.length_drop ..
              have f1 : (0 : Int) ≤ m := hm0
              have f2 : m ≤ (r'.length : Int) := by omega
              have wd : IntKind.i64.wrap (d + 1) = d + 1 := w64 (by omega) (by omega)
              have g2 : (acc.length + (0 + 1)) * 56 ≤ 140737488355328 := by omega
              have g1 : (0 + (r'.take m.toNat).length) * 1 ≤ 140737488355328 := by omega
              simp only [f1, f2, if_true, List.length_cons, List.length_nil, wd, g1, g2]
              have efu : ∀ (b' : List UInt8), b'.length < n → dec n d b' = dec (n + 1) d b' := fun b' h => dec_fuel n (n + 1) d b' h (by omega)
              cases hc : tagC tg with
              | true =>
                rw [br_t, if_pos rfl, hf (by omega) _ (by omega)]
                cases hk : dec n (d + 1) (r'.take m.toNat) with
                | error e =>
                  have := dec_err _ _ _ _ hk
                  simp only [decP, bnd2_mk]
                  rw [if_neg (by omega)]
                | ok k =>
                  simp only [decP, bnd2_mk, if_true]
                  rw [rread_loop N f d hd n hf t (r'.drop m.toNat) _ (by omega) (by omega) (by omega) (by simp; omega), ← efu _ (by omega)]
                  cases dec n d (r'.drop m.toNat) with
                  | error e => rfl
                  | ok l => simp [decP, Tl.enc]
              | false =>
                rw [br_f, if_neg (by simp)]
                rw [rread_loop N f d hd n hf t (r'.drop m.toNat) _ (by omega) (by omega) (by omega) (by simp; omega), ← efu _ (by omega)]
                cases dec n d (r'.drop m.toNat) with
                | error e => rfl
                | ok l => simp [decP, Tl.enc]
theorem rread_eq (N : Nat) (hN : 4096 < N) : ∀ (M : Nat) (b : List UInt8) (d : Int), 1 ≤ d → d ≤ 9 → 9 < d + M → b.length ≤ 4096 → s_rread N M b d = some (decP [] (dec (b.length + 1) d b))
  | 0, b, d, h1, h2, h, _ => by omega
  | M + 1, b, d, h1, h2, h, hb => by
    unfold s_rread B_rread
    exact rread_loop N (s_rread N M) d ⟨h1, h2⟩ b.length (fun h8 b' hb' => by
      rw [rread_eq N hN M b' (d + 1) (by omega) (by omega) (by omega) (by omega), dec_fuel (b'.length + 1) b.length (d + 1) b' (by omega) hb']) N b [] (by omega) (Nat.le_refl _) hb (by simpa using hb)
/-- Decode -/
def decR (b : List UInt8) : List V × Int := if 4096 < b.length then ([], 3) else decP [] (dec (b.length + 1) 1 b)
theorem Decode_eq (N : Nat) (hN : 4096 < N) (b : List UInt8) : s_Decode N b = some (decR b) := by
  unfold s_Decode decR
  rw [br_dec]
  by_cases h : 4096 < b.length
  · rw [if_pos (by omega), if_pos h]
  · rw [if_neg (by omega), if_neg h, decode_eq N hN N b 1 (by omega) (by omega) (by omega) (by omega)]; rfl
theorem rDecode_eq (N : Nat) (hN : 4096 < N) (b : List UInt8) : s_rDecode N b = some (decR b) := by
  unfold s_rDecode decR
  rw [br_dec]
  by_cases h : 4096 < b.length
  · rw [if_pos (by omega), if_pos h]
  · rw [if_neg (by omega), if_neg h, rread_eq N hN N b 1 (by omega) (by omega) (by omega) (by omega)]; rfl
/-- What Decode returns is a list. -/
theorem decR_list (b : List UInt8) : ∃ l : Tl, (decR b).1 = l.enc ∧ l.wf ∧ l.wt ≤ b.length ∧ ((decR b).2 = 0 → okL 1 l = true ∧ encL l = b ∧ b.length ≤ 4096) ∧ ((decR b).2 ≠ 0 → l = .nil) := by
  unfold decR
  by_cases h : 4096 < b.length
  · rw [if_pos h]; exact ⟨.nil, rfl, trivial, Nat.zero_le _, fun h => (by cases h), fun _ => rfl⟩
  · rw [if_neg h]
    cases hd : dec (b.length + 1) 1 b with
    | error e =>
      have := dec_err _ _ _ _ hd
      exact ⟨.nil, rfl, trivial, Nat.zero_le _, fun h => by simp only [decP] at h; omega, fun _ => rfl⟩
    | ok l =>
      obtain ⟨h1, h2, h3, h4⟩ := enc_dec _ _ _ _ hd
      exact ⟨l, rfl, h4, h3, fun _ => ⟨h1, h2, by omega⟩, fun h => absurd rfl h⟩
end Go.Proofs.Ytdiieghcakhkdaa.En

/- Comparing and finding data objects: what the program and the reference compute. -/
namespace Go.Proofs.Ytdiieghcakhkdaa.En
open Go
set_option linter.unusedVariables false
theorem enc_inj : ∀ a b : Tl, a.enc = b.enc → a = b
  | .nil, .nil, _ => rfl
  | .nil, .cons _ _ _ _, h => by simp [Tl.enc] at h
  | .cons _ _ _ _, .nil, h => by simp [Tl.enc] at h
  | .cons t v k r, .cons t' v' k' r', h => by
    simp only [Tl.enc, List.cons.injEq, V.agg.injEq, V.int.injEq, V.bytes.injEq, V.sl.injEq, and_true, true_and] at h
    obtain ⟨⟨h1, h2, h3⟩, h4⟩ := h
    rw [h1, h2, enc_inj k k' h3, enc_inj r r' h4]
theorem rBytes_eq (N : Nat) (a b : List UInt8) (h1 : a.length ≤ 9223372036854775807) (h2 : b.length ≤ 9223372036854775807) : s_rBytes N a b = some (decide (a = b)) := by
  unfold s_rBytes
  rw [br_dec, if_pos h1, br_dec, if_pos h2]
theorem Equal_eq (N : Nat) (a b : List UInt8) (h1 : a.length ≤ 9223372036854775807) (h2 : b.length ≤ 9223372036854775807) : s_Equal N a b = some (decide (a = b)) := by
  unfold s_Equal
  rw [br_dec, if_pos h1, br_dec, if_pos h2]
theorem at_mid2 {R α : Type} {pre : List α} {n : Nat} (h : pre.length = n) (x : α) (suf : List α) (K : α → Option R) : at? (pre ++ x :: suf) n K = K x := by
  subst h; exact at_mid pre x suf K
theorem rSame_loop (N : Nat) (f : List V → List V → Option Bool) (n : Nat) (hf : ∀ (a b : Tl), a.nodes < n → a.wf → b.wf → L63 a → L63 b → f a.enc b.enc = some (decide (a = b))) :
    ∀ (a b : Tl) (pre pre2 : List V) (t : Nat), a.len < t → a.nodes ≤ n → a.wf → b.wf → a.len = b.len → pre2.length = pre.length → pre.length + a.len ≤ 9223372036854775807 →
      S_rSame_4 N f (pre ++ a.enc) (pre2 ++ b.enc) t (pre.length : Int) (fun b => some b) (some true) = some (decide (a = b))
  | a, b, pre, pre2, 0, ht, _, _, _, _, _, _ => by omega
  | .nil, .nil, pre, pre2, t + 1, ht, _, _, _, _, _, _ => by
    unfold S_rSame_4 F_rSame_4
    simp only [Tl.enc, br_dec, endI, if_false]; rfl
  | .nil, .cons _ _ _ _, pre, pre2, t + 1, ht, _, _, _, h, _, _ => by simp [Tl.len] at h
  | .cons _ _ _ _, .nil, pre, pre2, t + 1, ht, _, _, _, h, _, _ => by simp [Tl.len] at h
  | .cons tg v k r, .cons tg' v' k' r', pre, pre2, t + 1, ht, hn, hw, hw', hll, hp, hl => by
    simp only [Tl.len, Tl.nodes] at ht hn hl hll
    obtain ⟨ht1, hv, hk1, hk2, hr⟩ := hw
    obtain ⟨ht1', hv', hk1', hk2', hr'⟩ := hw'
    obtain ⟨h1, h2, h3, h4⟩ := stepI pre (.agg [.int .i64 tg, .bytes v, .sl 40 k.enc]) r.enc (by rw [Tl.enc_len]; exact hl)
    have h5 : (pre.length : Int) < ((pre2 ++ V.agg [.int .i64 tg', .bytes v', .sl 40 k'.enc] :: r'.enc).length : Int) := by simp; omega
    have ih := rSame_loop N f n hf r r' (pre ++ [.agg [.int .i64 tg, .bytes v, .sl 40 k.enc]]) (pre2 ++ [.agg [.int .i64 tg', .bytes v', .sl 40 k'.enc]]) t (by omega) (by omega) hr hr' (by omega) (by simp; omega) (by simp; omega)
    rw [← mid, ← mid, ← h3] at ih
    unfold S_rSame_4 F_rSame_4
    simp only [Tl.enc, br_dec, br_and, br_not, h1, h2, h5, if_true, Int.toNat_natCast, at_mid, at_mid2 hp, unAgg_mk, unCons_mk, unNil_mk, unInt_mk, unBytes_mk, unSl_mk, rBytes_eq N v v' hv hv', bnd1_mk, hf k k' (by omega) hk2 hk2' hk1 hk1', ih]
    by_cases c1 : tg = tg'
    · by_cases c2 : v = v'
      · by_cases c3 : k = k'
        · simp [c1, c2, c3]
        · simp [c1, c2, c3]
      · simp [c1, c2]
    · simp [c1]
theorem rSame_eq (N : Nat) : ∀ (M : Nat) (a b : Tl), a.nodes < M → a.nodes < N → a.wf → b.wf → L63 a → L63 b → s_rSame N M a.enc b.enc = some (decide (a = b))
  | 0, a, b, h, _, _, _, _, _ => by omega
  | M + 1, a, b, h, hN, hw, hw', hl, hl' => by
    have := a.len_le
    unfold s_rSame B_rSame
    rw [br_not, br_dec, Tl.enc_len, Tl.enc_len]
    by_cases c : (a.len : Int) = b.len
    · rw [if_pos c]
      exact rSame_loop N (s_rSame N M) a.nodes (fun a b hn h1 h2 h3 h4 => rSame_eq N M a b (by omega) (by omega) h1 h2 h3 h4) a b [] [] N (by omega) (Nat.le_refl _) hw hw' (by omega) rfl (by simpa using hl)
    · rw [if_neg c]
      have : a ≠ b := fun e => c (by rw [e])
      simp [this]
theorem Same_loop (N : Nat) (f : List V → List V → Option Bool) (n : Nat) (hf : ∀ (a b : Tl), a.nodes < n → a.wf → b.wf → L63 a → L63 b → f a.enc b.enc = some (decide (a = b))) :
    ∀ (a b : Tl) (pre pre2 : List V) (t : Nat), a.len < t → a.nodes ≤ n → a.wf → b.wf → a.len = b.len → pre2.length = pre.length → pre.length + a.len ≤ 9223372036854775807 →
      S_EqualFuncS_4 N f (pre2 ++ b.enc) (pre ++ a.enc) ((pre ++ a.enc).length : Int) t (pre.length : Int) (fun b => some b) (some true) = some (decide (a = b))
  | a, b, pre, pre2, 0, ht, _, _, _, _, _, _ => by omega
  | .nil, .nil, pre, pre2, t + 1, ht, _, _, _, _, _, _ => by
    unfold S_EqualFuncS_4 F_EqualFuncS_4
    simp only [Tl.enc, br_dec, endI, if_false]; rfl
  | .nil, .cons _ _ _ _, pre, pre2, t + 1, ht, _, _, _, h, _, _ => by simp [Tl.len] at h
  | .cons _ _ _ _, .nil, pre, pre2, t + 1, ht, _, _, _, h, _, _ => by simp [Tl.len] at h
  | .cons tg v k r, .cons tg' v' k' r', pre, pre2, t + 1, ht, hn, hw, hw', hll, hp, hl => by
    simp only [Tl.len, Tl.nodes] at ht hn hl hll
    obtain ⟨ht1, hv, hk1, hk2, hr⟩ := hw
    obtain ⟨ht1', hv', hk1', hk2', hr'⟩ := hw'
    obtain ⟨h1, h2, h3, h4⟩ := stepI pre (.agg [.int .i64 tg, .bytes v, .sl 40 k.enc]) r.enc (by rw [Tl.enc_len]; exact hl)
    have h5 : (pre.length : Int) < ((pre2 ++ V.agg [.int .i64 tg', .bytes v', .sl 40 k'.enc] :: r'.enc).length : Int) := by simp; omega
    have ih := Same_loop N f n hf r r' (pre ++ [.agg [.int .i64 tg, .bytes v, .sl 40 k.enc]]) (pre2 ++ [.agg [.int .i64 tg', .bytes v', .sl 40 k'.enc]]) t (by omega) (by omega) hr hr' (by omega) (by simp; omega) (by simp; omega)
    rw [← mid, ← mid, ← h3] at ih
    unfold S_EqualFuncS_4 F_EqualFuncS_4 s_Same1
    simp only [Tl.enc, br_dec, br_and, br_not, h1, h2, h5, if_true, Int.toNat_natCast, at_mid, at_mid2 hp, unAgg_mk, unCons_mk, unNil_mk, unInt_mk, unBytes_mk, unSl_mk, Equal_eq N v v' hv hv', bnd1_mk, hf k k' (by omega) hk2 hk2' hk1 hk1', ih]
    by_cases c1 : tg = tg'
    · by_cases c2 : v = v'
      · by_cases c3 : k = k'
        · simp [c1, c2, c3, bnd1, br]
        · simp [c1, c2, c3, bnd1, br]
      · simp [c1, c2, bnd1, br]
    · simp [c1, bnd1, br]
theorem Same_eq (N : Nat) : ∀ (M : Nat) (a b : Tl), a.nodes < M → a.nodes < N → a.wf → b.wf → L63 a → L63 b → s_Same N M a.enc b.enc = some (decide (a = b))
  | 0, a, b, h, _, _, _, _, _ => by omega
  | M + 1, a, b, h, hN, hw, hw', hl, hl' => by
    have := a.len_le
    unfold s_Same B_Same s_EqualFuncS
    rw [br_not, br_dec, Tl.enc_len, Tl.enc_len]
    by_cases c : (a.len : Int) = b.len
    · rw [if_pos c]
      have := Same_loop N (s_Same N M) a.nodes (fun a b hn h1 h2 h3 h4 => Same_eq N M a b (by omega) (by omega) h1 h2 h3 h4) a b [] [] N (by omega) (Nat.le_refl _) hw hw' (by omega) rfl (by simpa using hl)
      simp only [List.nil_append, Tl.enc_len] at this
      have h0 : ((([] : List V).length : Nat) : Int) = 0 := rfl
      rw [h0] at this
      rw [this]; rfl
    · rw [if_neg c]
      have : a ≠ b := fun e => c (by rw [e])
      simp [this, bnd1]
/-! Find -/
/-- The first object with a tag: its place. -/
def at1 (t : Int) : Tl → Option (List UInt8 × Tl)
  | .nil => none
  | .cons t' v k r => if t' = t then some (v, k) else at1 t r
def findT : Tl → List Int → Option (Int × List UInt8 × Tl) → Option (Int × List UInt8 × Tl)
  | _, [], x => x
  | l, p :: ps, _ => match at1 p l with
    | none => none
    | some (v, k) => findT k ps (some (p, v, k))
def pathV (ps : List Int) : List V := ps.map (.int .i64)
def findR (l : Tl) (ps : List Int) : Int × List UInt8 × List V × Bool :=
  match findT l ps none with
  | none => (0, [], [], false)
  | some (t, v, k) => (t, v, k.enc, true)
theorem at1_wf {t : Int} : ∀ {l : Tl} {v : List UInt8} {k : Tl}, at1 t l = some (v, k) → l.wf → v.length ≤ 9223372036854775807 ∧ L63 k ∧ k.wf ∧ k.nodes < l.nodes ∧ k.wt ≤ l.wt ∧ v.length ≤ l.wt
  | .nil, v, k, h, _ => by cases h
  | .cons t' v' k' r, v, k, h, ⟨h1, h2, h3, h4, h5⟩ => by
    unfold at1 at h
    simp only [Tl.nodes, Tl.wt]
    split at h
    · injection h with h
      injection h with e1 e2
      subst e1 e2
      exact ⟨h2, h3, h4, by omega, by omega, by omega⟩
    · obtain ⟨a, b, c, d, e, f⟩ := at1_wf h h5
      exact ⟨a, b, c, by omega, by omega, by omega⟩
theorem copied_loop (N : Nat) (f : Int → List UInt8 → List V → Option (Int × List UInt8 × List V)) (n : Nat) (hf : ∀ (t : Int) (v : List UInt8) (k : Tl), k.nodes < n → v.length ≤ 6000 → k.wt ≤ 6000 → f t v k.enc = some (t, v, k.enc))
    (n3 : Int) (l4 : List UInt8) (vs5 : List V) (n6 : Int) (l7 : List UInt8) (vs8 : List V) (n9 : Int) (l10 : List UInt8) :
    ∀ (l : Tl) (pre acc : List V) (t : Nat), l.len < t → l.nodes ≤ n → l.wt ≤ 6000 → pre.length + l.len ≤ 6000 → acc.length + l.len ≤ 6000 →
      S_copied_3 N f (pre ++ l.enc) ((pre ++ l.enc).length : Int) n3 l4 vs5 n6 l7 vs8 n9 l10 t (pre.length : Int) acc (fun l1 => some (n3, l10, l1)) = some (n3, l10, acc ++ l.enc)
  | l, pre, acc, 0, ht, _, _, _, _ => by omega
  | .nil, pre, acc, t + 1, ht, _, _, _, _ => by
    unfold S_copied_3 F_copied_3
    simp only [Tl.enc, br_dec, endI, if_false]; simp
  | .cons tg v k r, pre, acc, t + 1, ht, hn, hwt, hl, ha => by
    simp only [Tl.len, Tl.nodes, Tl.wt] at ht hn hl hwt ha
    obtain ⟨h1, h2, h3, h4⟩ := stepI pre (.agg [.int .i64 tg, .bytes v, .sl 40 k.enc]) r.enc (by rw [Tl.enc_len]; omega)
    have ih := copied_loop N f n hf n3 l4 vs5 n6 l7 vs8 n9 l10 r (pre ++ [.agg [.int .i64 tg, .bytes v, .sl 40 k.enc]]) (acc ++ [.agg [.int .i64 tg, .bytes v, .sl 40 k.enc]]) t (by omega) (by omega) (by omega) (by simp; omega) (by simp; omega)
    rw [← mid, ← h3] at ih
    have h5 : (acc.length + (0 + 1)) * 56 ≤ 140737488355328 := by omega
    unfold S_copied_3 F_copied_3
    simp only [Tl.enc, br_t, br_f, br_dec, br_not, br_and, br_or, bnd1_mk, bnd2_mk, bnd3_mk, bnd4_mk, at_zero, at_succ, at_mid, unInt_mk, unBool_mk, unStr_mk, unBytes_mk, unSl_mk, unAgg_mk, unCons_mk, unNil_mk, h1, h2, if_true, Int.toNat_natCast, hf tg v k (by omega) (by omega) (by omega), List.length_cons, List.length_nil, h5, ih]
    simp
theorem copied_eq (N : Nat) : ∀ (M : Nat) (t : Int) (v : List UInt8) (k : Tl), k.nodes < M → k.nodes < N → v.length ≤ 6000 → k.wt ≤ 6000 → s_copied N M t v k.enc = some (t, v, k.enc)
  | 0, t, v, k, h, _, _, _ => by omega
  | M + 1, t, v, k, h, hN, hv, hk => by
    have := k.len_le
    have := k.len_wt
    unfold s_copied B_copied s_clone
    rw [br_dec, if_pos (by omega), bnd1_mk]
    have := copied_loop N (s_copied N M) k.nodes (fun t v k' h1 h2 h3 => copied_eq N M t v k' (by omega) (by omega) h2 h3) t v k.enc 0 [] [] t v k [] [] N (by omega) (Nat.le_refl _) hk (by simp; omega) (by simp; omega)
    simpa using this
theorem IndexFuncF_loop (N : Nat) (p : Int) : ∀ (l : Tl) (pre : List V) (t : Nat), l.len < t → pre.length + l.len ≤ 9223372036854775807 →
    ∃ i, S_IndexFuncF_2 N (pre ++ l.enc) ((pre ++ l.enc).length : Int) p t (pre.length : Int) (fun n0 => some n0) (some (-1)) = some i ∧
      (match at1 p l with | none => i < 0 | some (v, k) => 0 ≤ i ∧ i < ((pre ++ l.enc).length : Int) ∧ (pre ++ l.enc)[i.toNat]? = some (.agg [.int .i64 p, .bytes v, .sl 40 k.enc]))
  | l, pre, 0, ht, _ => by omega
  | .nil, pre, t + 1, ht, _ => by
    unfold S_IndexFuncF_2 F_IndexFuncF_2
    simp only [Tl.enc, br_dec, endI, if_false]
    exact ⟨-1, rfl, by simp [at1]⟩
  | .cons tg v k r, pre, t + 1, ht, hl => by
    simp only [Tl.len] at ht hl
    obtain ⟨h1, h2, h3, h4⟩ := stepI pre (.agg [.int .i64 tg, .bytes v, .sl 40 k.enc]) r.enc (by rw [Tl.enc_len]; exact hl)
    obtain ⟨i, ih1, ih2⟩ := IndexFuncF_loop N p r (pre ++ [.agg [.int .i64 tg, .bytes v, .sl 40 k.enc]]) t (by omega) (by simp; omega)
    rw [← mid, ← h3] at ih1
    rw [← mid] at ih2
    unfold S_IndexFuncF_2 F_IndexFuncF_2 s_Find1 C_Find1 at1
    simp only [Tl.enc, br_t, br_f, br_dec, br_not, br_and, br_or, bnd1_mk, bnd2_mk, bnd3_mk, bnd4_mk, at_zero, at_succ, at_mid, unInt_mk, unBool_mk, unStr_mk, unBytes_mk, unSl_mk, unAgg_mk, unCons_mk, unNil_mk, h1, h2, if_true, Int.toNat_natCast]
    by_cases c : tg = p
    · rw [if_pos c, if_pos c]
      subst c
      exact ⟨_, rfl, h2, h1, by simp⟩
    · rw [if_neg c, if_neg c]
      exact ⟨i, ih1, ih2⟩
theorem IndexFuncF_eq (N : Nat) (p : Int) (l : Tl) (h : l.len < N) (hl : L63 l) : ∃ i, s_IndexFuncF N l.enc p = some i ∧
      (match at1 p l with | none => i < 0 | some (v, k) => 0 ≤ i ∧ i < (l.enc.length : Int) ∧ l.enc[i.toNat]? = some (.agg [.int .i64 p, .bytes v, .sl 40 k.enc])) :=
  IndexFuncF_loop N p l [] N h (by simpa using hl)
/-- What was found so far, as the loop keeps it. -/
def foundD : Option (Int × List UInt8 × Tl) → Int × List UInt8 × List V
  | none => (0, [], [])
  | some (t, v, k) => (t, v, k.enc)
theorem stepP (pre : List V) (x : V) (suf : List V) (h : pre.length + (suf.length + 1) ≤ 9223372036854775807) : IntKind.i64.wrap ((pre.length : Int) + 1) = ((pre ++ [x]).length : Int) := (stepI pre x suf h).2.2.1
end Go.Proofs.Ytdiieghcakhkdaa.En

/- Find, of the program and of the reference. -/
namespace Go.Proofs.Ytdiieghcakhkdaa.En
open Go
set_option linter.unusedVariables false
def FoundOK : Option (Int × List UInt8 × Tl) → Prop
  | none => True
  | some (t, v, k) => v.length ≤ 6000 ∧ k.wt ≤ 6000
theorem pathV_at (pre : List V) (p : Int) (ps : List Int) : pre ++ pathV (p :: ps) = (pre ++ [.int .i64 p]) ++ pathV ps := by simp [pathV]
theorem Find_loop (N : Nat) (n5 : Int) (l6 : List UInt8) (vs7 : List V) (path : List V) (hpl : path.length ≤ 9000) :
    ∀ (ps : List Int) (pre : List V) (l : Tl) (x : Option (Int × List UInt8 × Tl)) (t : Nat), ps.length < t → path = pre ++ pathV ps → l.nodes < N → l.wf → L63 l → l.wt ≤ 6000 → FoundOK x → (∀ p v k, x = some (p, v, k) → k.nodes < N) → (x = none ↔ pre = []) → 0 < N →
      S_Find_3 N path path (path.length : Int) n5 l6 vs7 t l.enc (pre.length : Int) (foundD x).1 (foundD x).2.1 (foundD x).2.2
        (fun b0 n1 l2 l3 n4 l5 l6 => some (n1, l2, l3, b0)) (fun n7 l8 l9 => bnd3 (s_copied N N n7 l8 l9) fun n10 l11 l12 => some (n10, l11, l12, decide (0 < (path.length : Int)))) =
      some (match findT l ps x with | none => (0, [], [], false) | some (t, v, k) => (t, v, k.enc, true))
  | ps, pre, l, x, 0, ht, _, _, _, _, _, _, _, _, _ => by omega
  | [], pre, l, x, t + 1, ht, hp, hN, hw, hl, hwt, hx, hxn, hxp, hN0 => by
    have hp' : path = pre := by rw [hp]; simp [pathV]
    unfold S_Find_3 F_Find_3 findT
    rw [br_dec, if_neg (by rw [hp']; omega)]
    cases x with
    | none =>
      have : path = [] := by rw [hp']; exact hxp.1 rfl
      subst this
      have hc := copied_eq N N 0 [] .nil hN0 hN0 (by simp) (by simp [Tl.wt])
      simp only [foundD]
      have hc' : s_copied N N 0 [] [] = some (0, [], []) := hc
      rw [hc']; rfl
    | some y =>
      obtain ⟨q, v, k⟩ := y
      have hne : pre ≠ [] := fun h => by cases hxp.2 h
      obtain ⟨hv, hk⟩ := hx
      simp only [foundD]
      rw [copied_eq N N q v k (hxn q v k rfl) (hxn q v k rfl) hv hk, bnd3_mk]
      have : 0 < pre.length := List.length_pos_iff.2 hne
      rw [hp']
      simp [this]
  | p :: ps, pre, l, x, t + 1, ht, hp, hN, hw, hl, hwt, hx, hxn, hxp, hN0 => by
    have hlen : path.length = pre.length + (ps.length + 1) := by rw [hp]; simp [pathV]
    have e : path = pre ++ V.int .i64 p :: pathV ps := by rw [hp]; rfl
    have h3 : IntKind.i64.wrap ((pre.length : Int) + 1) = ((pre ++ [V.int .i64 p]).length : Int) := by rw [w64 (by omega) (by omega)]; simp
    unfold S_Find_3 F_Find_3
    have h1 : (pre.length : Int) < (path.length : Int) := by omega
    have h2 : (0 : Int) ≤ pre.length := by omega
    have hat : ∀ {R : Type} (K : V → Option R), at? path pre.length K = K (.int .i64 p) := fun K => by rw [e]; exact at_mid _ _ _ K
    simp only [br_dec, br_and, h1, h2, if_true, Int.toNat_natCast, hat, unInt_mk]
    have hll := l.len_le
    obtain ⟨i, i1, i2⟩ := IndexFuncF_eq N p l (by omega) hl
    rw [i1, bnd1_mk]
    cases ha : at1 p l with
    | none =>
      rw [ha] at i2
      rw [if_pos i2]
      simp only [findT, ha]
    | some y =>
      obtain ⟨v, k⟩ := y
      rw [ha] at i2
      obtain ⟨j1, j2, j3⟩ := i2
      obtain ⟨w1, w2, w3, w4, w5, w6⟩ := at1_wf ha hw
      rw [if_neg (by omega), if_pos j1, if_pos j2, at_of j3]
      simp only [unAgg_mk, unCons_mk, unNil_mk, unInt_mk, unBytes_mk, unSl_mk, h3]
      have ih := Find_loop N n5 l6 vs7 path hpl ps (pre ++ [.int .i64 p]) k (some (p, v, k)) t (by simp at ht; omega) (by rw [hp, pathV_at]) (by omega) w3 w2 (by omega) ⟨by omega, by omega⟩ (fun p' v' k' h => by injection h with h; injection h with _ h; injection h with _ h; subst h; omega) (by simp) hN0
      simp only [findT, ha]
      exact ih
theorem Find_eq (N : Nat) (l : Tl) (ps : List Int) (hN : l.nodes < N) (hp : ps.length < N) (hw : l.wf) (hl : L63 l) (hwt : l.wt ≤ 6000) (hpl : ps.length ≤ 100) : s_Find N l.enc (pathV ps) = some (findR l ps) := by
  have := Find_loop N 0 [] [] (pathV ps) (by simp [pathV]; omega) ps [] l none N hp rfl hN hw hl hwt trivial (fun _ _ _ h => by cases h) (by simp) (by omega)
  unfold s_Find findR
  exact this
theorem rIdx_loop {R : Type} (N : Nat) (vs1 : List V) (n2 n5 : Int) (l6 : List UInt8) (vs7 : List V) (n8 : Int) (l9 : List UInt8) (vs10 : List V) (p : Int) (K0 : Int → Option R) (h0 : 0 ≤ n2) (h1 : n2 < (vs1.length : Int)) (hat : ∀ (K : V → Option R), at? vs1 n2.toNat K = K (.int .i64 p)) :
    ∀ (l : Tl) (pre : List V) (t : Nat), l.len + 1 < t → pre.length + l.len ≤ 9223372036854775807 →
    ∃ i, S_rFind_7 N (pre ++ l.enc) vs1 n2 n5 l6 vs7 n8 l9 vs10 t (-1) (pre.length : Int) K0 = K0 i ∧
      (match at1 p l with | none => i < 0 | some (v, k) => 0 ≤ i ∧ i < ((pre ++ l.enc).length : Int) ∧ (pre ++ l.enc)[i.toNat]? = some (.agg [.int .i64 p, .bytes v, .sl 40 k.enc]))
  | l, pre, 0, ht, _ => by omega
  | .nil, pre, t + 1, ht, _ => by
    unfold S_rFind_7 F_rFind_7
    simp only [Tl.enc, br_dec, endI, if_false]
    exact ⟨-1, rfl, by simp [at1]⟩
  | .cons tg v k r, pre, t + 1, ht, hl => by
    simp only [Tl.len] at ht hl
    obtain ⟨g1, g2, g3, g4⟩ := stepI pre (.agg [.int .i64 tg, .bytes v, .sl 40 k.enc]) r.enc (by rw [Tl.enc_len]; exact hl)
    obtain ⟨i, ih1, ih2⟩ := rIdx_loop N vs1 n2 n5 l6 vs7 n8 l9 vs10 p K0 h0 h1 hat r (pre ++ [.agg [.int .i64 tg, .bytes v, .sl 40 k.enc]]) t (by omega) (by simp; omega)
    rw [← mid, ← g3] at ih1
    rw [← mid] at ih2
    unfold S_rFind_7 F_rFind_7 at1
    simp only [Tl.enc, br_dec, br_and, unInt_mk, unBytes_mk, unSl_mk, unAgg_mk, unCons_mk, unNil_mk, at_mid, g1, g2, h0, h1, (by decide : (-1 : Int) < 0), if_true, Int.toNat_natCast, hat]
    by_cases c : tg = p
    · rw [if_pos c, if_pos c]
      subst c
      match t, ht with
      | t + 1, _ =>
      unfold S_rFind_7 F_rFind_7
      simp only [br_dec]
      rw [if_neg (show ¬ ((pre.length : Int) < 0) by omega)]
      refine ⟨(pre.length : Int), ?_, g2, g1, by simp⟩
      split <;> rfl
    · rw [if_neg c, if_neg c]
      exact ⟨i, ih1, ih2⟩
theorem rFind_loop (N : Nat) (n3 : Int) (l4 : List UInt8) (vs5 : List V) (path : List V) (hpl : path.length ≤ 9000) :
    ∀ (ps : List Int) (pre : List V) (l : Tl) (x : Option (Int × List UInt8 × Tl)) (t : Nat), ps.length < t → path = pre ++ pathV ps → l.nodes + 1 < N → l.wf → L63 l → (x = none ↔ pre = []) →
      S_rFind_3 N path n3 l4 vs5 t l.enc (pre.length : Int) (foundD x).1 (foundD x).2.1 (foundD x).2.2
        (fun b0 n1 l2 l3 n4 l5 l6 => some (n1, l2, l3, b0)) (fun n7 l8 l9 => some (n7, l8, l9, decide (0 < (path.length : Int)))) =
      some (match findT l ps x with | none => (0, [], [], false) | some (t, v, k) => (t, v, k.enc, true))
  | ps, pre, l, x, 0, ht, _, _, _, _, _ => by omega
  | [], pre, l, x, t + 1, ht, hp, hN, hw, hl, hxp => by
    have hp' : path = pre := by rw [hp]; simp [pathV]
    unfold S_rFind_3 F_rFind_3 findT
    rw [br_dec, if_neg (by rw [hp']; omega)]
    cases x with
    | none =>
      have : path = [] := by rw [hp']; exact hxp.1 rfl
      subst this
      rfl
    | some y =>
      obtain ⟨q, v, k⟩ := y
      have hne : pre ≠ [] := fun h => by cases hxp.2 h
      have : 0 < pre.length := List.length_pos_iff.2 hne
      simp only [foundD]
      rw [hp']
      simp [this]
  | p :: ps, pre, l, x, t + 1, ht, hp, hN, hw, hl, hxp => by
    have hlen : path.length = pre.length + (ps.length + 1) := by rw [hp]; simp [pathV]
    have e : path = pre ++ V.int .i64 p :: pathV ps := by rw [hp]; rfl
    have h3 : IntKind.i64.wrap ((pre.length : Int) + 1) = ((pre ++ [V.int .i64 p]).length : Int) := by rw [w64 (by omega) (by omega)]; simp
    unfold S_rFind_3 F_rFind_3
    have h1 : (pre.length : Int) < (path.length : Int) := by omega
    have h2 : (0 : Int) ≤ pre.length := by omega
    rw [br_dec, if_pos h1]
    have hll := l.len_le
    obtain ⟨i, i1, i2⟩ := rIdx_loop N path (pre.length : Int) n3 l4 vs5 (foundD x).1 (foundD x).2.1 (foundD x).2.2 p (fun n0 =>
      br (decide (n0 < 0)) (some (0, [], [], false))
        (br (decide (0 ≤ n0) && decide (n0 < (l.enc.length : Int)))
          (at? l.enc n0.toNat fun x1 =>
            x1.unAgg fun l2 => unCons l2 fun x3 l4' => V.unInt IntKind.i64 x3 fun n5 => unCons l4' fun x6 l7 => x6.unBytes fun l8 => unCons l7 fun x9 l10 => V.unSl 40 x9 fun l11 => unNil l10
              (S_rFind_3 N path n3 l4 vs5 t l11 (IntKind.i64.wrap ((pre.length : Int) + 1)) n5 l8 l11 (fun b0 n1 l2 l3 n4 l5 l6 => some (n1, l2, l3, b0)) (fun n7 l8 l9 => some (n7, l8, l9, decide (0 < (path.length : Int))))))
          none)) h2 h1 (fun K => by rw [Int.toNat_natCast, e]; exact at_mid _ _ _ K) l [] N (by omega) (by simpa using hl)
    have i1' : S_rFind_7 N l.enc path (pre.length : Int) n3 l4 vs5 (foundD x).1 (foundD x).2.1 (foundD x).2.2 N (-1) 0 _ = _ := i1
    rw [i1']
    simp only [List.nil_append] at i2
    cases ha : at1 p l with
    | none =>
      rw [ha] at i2
      rw [br_dec, if_pos i2]
      simp only [findT, ha]
    | some y =>
      obtain ⟨v, k⟩ := y
      rw [ha] at i2
      obtain ⟨j1, j2, j3⟩ := i2
      obtain ⟨w1, w2, w3, w4, w5, w6⟩ := at1_wf ha hw
      rw [br_dec, if_neg (by omega), br_and, br_dec, if_pos j1, br_dec, if_pos j2, at_of j3]
      simp only [unAgg_mk, unCons_mk, unNil_mk, unInt_mk, unBytes_mk, unSl_mk, h3]
      have ih := rFind_loop N n3 l4 vs5 path hpl ps (pre ++ [.int .i64 p]) k (some (p, v, k)) t (by simp at ht; omega) (by rw [hp, pathV_at]) (by omega) w3 w2 (by simp)
      simp only [findT, ha]
      exact ih
theorem rFind_eq (N : Nat) (l : Tl) (ps : List Int) (hN : l.nodes + 1 < N) (hp : ps.length < N) (hw : l.wf) (hl : L63 l) (hpl : ps.length ≤ 100) : s_rFind N l.enc (pathV ps) = some (findR l ps) := by
  have := rFind_loop N 0 [] [] (pathV ps) (by simp [pathV]; omega) ps [] l none N hp rfl hN hw hl (by simp)
  unfold s_rFind findR
  exact this
end Go.Proofs.Ytdiieghcakhkdaa.En

/- The text of data objects: what the program and the reference compute. -/
namespace Go.Proofs.Ytdiieghcakhkdaa.En
open Go
set_option linter.unusedVariables false
def digs : List UInt8 := [48, 49, 50, 51, 52, 53, 54, 55, 56, 57, 97, 98, 99, 100, 101, 102]
def hexD (n : Nat) : UInt8 := digs.getD n 0
def hexB (b : List UInt8) : List UInt8 := b.flatMap fun u => [hexD (u.toNat / 16), hexD (u.toNat % 16)]
theorem hexB_cons (u : UInt8) (r : List UInt8) : hexB (u :: r) = hexD (u.toNat / 16) :: hexD (u.toNat % 16) :: hexB r := rfl
theorem hexB_len (b : List UInt8) : (hexB b).length = 2 * b.length := by
  induction b with
  | nil => rfl
  | cons u r ih => rw [hexB_cons]; simp [ih]; omega
theorem hexB_append (a b : List UInt8) : hexB (a ++ b) = hexB a ++ hexB b := by simp [hexB]
theorem digs_at {R : Type} (i : Nat) (h : i < 16) (K : UInt8 → Option R) : at? digs i K = K (hexD i) := by
  apply at_of
  rw [List.getElem?_eq_getElem (by exact h)]
  simp [hexD, List.getD_eq_getElem?_getD, digs]
  rw [List.getElem?_eq_getElem (by exact h)]; rfl
theorem digs_cut : ∀ (i : Nat), i < 16 → (digs.take (i + 1)).drop i = [hexD i] := by decide
theorem shr4 (u : UInt8) : shrI .u8 (u.toNat : Int) 4 = ((u.toNat / 16 : Nat) : Int) := by
  show (u.toNat : Int).fdiv (2 ^ (min (4 : Int).toNat 8)) = _
  rw [show (2 : Int) ^ (min (4 : Int).toNat 8) = 16 from rfl, fdiv_pos _ _ (by omega)]; omega
theorem and15 (u : UInt8) : bitsI .and .u8 (u.toNat : Int) 15 = ((u.toNat % 16 : Nat) : Int) := by
  have hu := u.toNat_lt
  have e1 : (BitVec.ofInt 8 (15 : Int)).toNat = 2 ^ 4 - 1 := by decide
  have e2 : (BitVec.ofInt 8 (u.toNat : Int)).toNat = u.toNat := by
    rw [BitVec.toNat_ofInt]; simp; omega
  show IntKind.u8.wrap ((BitVec.ofInt 8 (u.toNat : Int) &&& BitVec.ofInt 8 15).toNat : Int) = _
  rw [BitVec.toNat_and, e1, e2, Nat.and_two_pow_sub_one_eq_mod, wu8]; omega
theorem Hex_loop {R : Type} (N : Nat) (K0 : List UInt8 → Option R) : ∀ (b pre acc : List UInt8) (t : Nat), b.length < t → pre.length + b.length ≤ 1000000 → acc.length + 2 * b.length ≤ 2000000 →
    S_Hex_3 N (pre ++ b) ((pre ++ b).length : Int) t acc (pre.length : Int) K0 = K0 (acc ++ hexB b)
  | b, pre, acc, 0, ht, _, _ => by omega
  | [], pre, acc, t + 1, ht, _, ha => by
    unfold S_Hex_3 F_Hex_3
    have e : ¬ ((pre.length : Int) < ((pre ++ ([] : List UInt8)).length : Int)) := by simp
    simp only [List.length_nil] at ha
    rw [br_dec, if_neg e]; simp [hexB]
  | u :: r, pre, acc, t + 1, ht, hl, ha => by
    simp only [List.length_cons] at ht hl ha
    have hu := u.toNat_lt
    have h1 : (pre.length : Int) < ((pre ++ u :: r).length : Int) := by simp; omega
    have h2 : (0 : Int) ≤ pre.length := by omega
    have h3 : IntKind.i64.wrap ((pre.length : Int) + 1) = ((pre ++ [u]).length : Int) := by rw [w64 (by omega) (by omega)]; simp
    have em : pre ++ u :: r = (pre ++ [u]) ++ r := by simp
    have ih := Hex_loop N K0 r (pre ++ [u]) (acc ++ [hexD (u.toNat / 16), hexD (u.toNat % 16)]) t (by omega) (by simp; omega) (by simp; omega)
    rw [← em, ← h3] at ih
    have f1 : (0 : Int) ≤ ((u.toNat / 16 : Nat) : Int) := by omega
    have f2 : ((u.toNat / 16 : Nat) : Int) < 16 := by omega
    have f3 : ((u.toNat % 16 : Nat) : Int) < 16 := by omega
    have f4 : (acc.length + (0 + 1 + 1)) * 1 ≤ 140737488355328 := by omega
    have ed : ([48, 49, 50, 51, 52, 53, 54, 55, 56, 57, 97, 98, 99, 100, 101, 102] : List UInt8) = digs := rfl
    unfold S_Hex_3 F_Hex_3
    simp only [br_dec, br_and, h1, h2, if_true, Int.toNat_natCast, at_mid, shr4, and15, f1, f2, f3, ed, digs_at _ (by omega : u.toNat / 16 < 16), digs_at _ (by omega : u.toNat % 16 < 16), List.length_cons, List.length_nil, f4, UInt8.ofNat_toNat, ih, hexB_cons]
    simp
theorem Hex_eq (N : Nat) (b : List UInt8) (h : b.length < N) (hb : b.length ≤ 1000000) : s_Hex N b = some (hexB b) := by
  have := Hex_loop N (fun l0 => br (decide (l0.length ≤ 9223372036854775807)) (some l0) none) b [] [] N h (by simpa using hb) (by simp; omega)
  rw [List.nil_append, br_dec, if_pos (by rw [List.nil_append, hexB_len]; omega), List.nil_append] at this
  unfold s_Hex
  have e : IntKind.i64.wrap (2 * (b.length : Int)) = 2 * b.length := w64 (by omega) (by omega)
  rw [e, br_and, br_dec, if_pos (by omega), br_dec, if_pos (by omega)]
  exact this
theorem rHex_loop (N : Nat) : ∀ (b pre acc : List UInt8) (t : Nat), b.length < t → pre.length + b.length ≤ 1000000 → acc.length + 2 * b.length ≤ 2000000 →
    S_rHex_4 N (pre ++ b) digs t acc (pre.length : Int) (fun l0 => some l0) = some (acc ++ hexB b)
  | b, pre, acc, 0, ht, _, _ => by omega
  | [], pre, acc, t + 1, ht, _, ha => by
    unfold S_rHex_4 F_rHex_4
    have e : ¬ ((pre.length : Int) < ((pre ++ ([] : List UInt8)).length : Int)) := by simp
    rw [br_dec, if_neg e]; simp [hexB]
  | u :: r, pre, acc, t + 1, ht, hl, ha => by
    simp only [List.length_cons] at ht hl ha
    have hu := u.toNat_lt
    have h1 : (pre.length : Int) < ((pre ++ u :: r).length : Int) := by simp; omega
    have h2 : (0 : Int) ≤ pre.length := by omega
    have h3 : IntKind.i64.wrap ((pre.length : Int) + 1) = ((pre ++ [u]).length : Int) := by rw [w64 (by omega) (by omega)]; simp
    have em : pre ++ u :: r = (pre ++ [u]) ++ r := by simp
    have ih := rHex_loop N r (pre ++ [u]) (acc ++ [hexD (u.toNat / 16)] ++ [hexD (u.toNat % 16)]) t (by omega) (by simp; omega) (by simp; omega)
    rw [← em, ← h3] at ih
    have t1 : (u.toNat : Int).tdiv 16 = ((u.toNat / 16 : Nat) : Int) := by rw [Int.tdiv_eq_ediv_of_nonneg (by omega)]; omega
    have t2 : (u.toNat : Int).tmod 16 = ((u.toNat % 16 : Nat) : Int) := by rw [Int.tmod_eq_emod_of_nonneg (by omega)]; omega
    have w1 : ((u.toNat / 16 : Nat) : Int) % 256 = ((u.toNat / 16 : Nat) : Int) := by omega
    have w2 : (((u.toNat / 16 : Nat) : Int) + 1) % 256 = ((u.toNat / 16 + 1 : Nat) : Int) := by omega
    have w3 : (((u.toNat % 16 : Nat) : Int) + 1) % 256 = ((u.toNat % 16 + 1 : Nat) : Int) := by omega
    have hd : (digs.length : Int) = 16 := rfl
    have f1 : ((u.toNat / 16 + 1 : Nat) : Int) ≤ 16 := by omega
    have f2 : ((u.toNat / 16 : Nat) : Int) ≤ ((u.toNat / 16 + 1 : Nat) : Int) := by omega
    have f3 : ((u.toNat % 16 + 1 : Nat) : Int) ≤ 16 := by omega
    have f4 : ((u.toNat % 16 : Nat) : Int) ≤ ((u.toNat % 16 + 1 : Nat) : Int) := by omega
    have f5 : acc.length + (0 + 1) ≤ 9223372036854775807 := by omega
    have f6 : (acc ++ [hexD (u.toNat / 16)]).length + (0 + 1) ≤ 9223372036854775807 := by simp; omega
    unfold S_rHex_4 F_rHex_4
    simp only [br_dec, br_and, h1, h2, if_true, Int.toNat_natCast, at_mid, t1, t2, wu8, w1, w2, w3, hd, f1, f2, f3, f4, digs_cut _ (by omega : u.toNat / 16 < 16), digs_cut _ (by omega : u.toNat % 16 < 16), List.length_cons, List.length_nil, f5, f6]
    rw [ih, hexB_cons]
    simp
theorem rHex_eq (N : Nat) (b : List UInt8) (h : b.length < N) (hb : b.length ≤ 1000000) : s_rHex N b = some (hexB b) := by
  have := rHex_loop N b [] [] N h (by simpa using hb) (by simp; omega)
  unfold s_rHex
  exact this
/-! Lines -/
def txt : List UInt8 → Tl → List UInt8
  | _, .nil => []
  | ind, .cons t v k r => (ind ++ hexB (tagB t) ++ (if (v.length : Int) = 0 then [] else 32 :: hexB v) ++ [10] ++ txt (ind ++ [32, 32]) k) ++ txt ind r
theorem txt_len : ∀ (l : Tl) (d : Int) (ind : List UInt8), okL d l = true → (ind.length : Int) ≤ 2 * d → (txt ind l).length ≤ 40 * l.wt
  | .nil, d, ind, _, _ => Nat.zero_le _
  | .cons t v k r, d, ind, hok, hi => by
    unfold okL at hok
    simp only [Bool.and_eq_true, decide_eq_true_eq] at hok
    obtain ⟨⟨hd8, htv, hb⟩, hokr⟩ := hok
    have h1 := txt_len r d ind hokr hi
    have ht := tagB_len t
    have h2 : (txt (ind ++ [32, 32]) k).length ≤ 40 * k.wt := by
      cases hc : tagC t with
      | true =>
        rw [hc] at hb
        simp only [cond_true, Bool.and_eq_true] at hb
        exact txt_len k (d + 1) (ind ++ [32, 32]) hb.2 (by simp; omega)
      | false =>
        rw [hc] at hb
        simp only [cond_false] at hb
        have hk0 : k = .nil := by cases k with | nil => rfl | cons a b c d => simp [Tl.isNil] at hb
        subst hk0; exact Nat.zero_le _
    have h3 : (if (v.length : Int) = 0 then [] else 32 :: hexB v : List UInt8).length ≤ 1 + 2 * v.length := by
      split
      · simp
      · rw [List.length_cons, hexB_len]; omega
    have h4 := hexB_len (tagB t)
    simp only [txt, Tl.wt, List.length_append, List.length_cons, List.length_nil]
    omega
/-- What a kid's text needs. -/
def KidsOK (d : Int) (k : Tl) : Prop := okL (d + 1) k = true
theorem kids_ok {d t : Int} {v : List UInt8} {k r : Tl} (h : okL d (.cons t v k r) = true) : okL (d + 1) k = true ∧ okL d r = true ∧ d ≤ 8 ∧ tagV t = true := by
  unfold okL at h
  simp only [Bool.and_eq_true, decide_eq_true_eq] at h
  obtain ⟨⟨hd8, htv, hb⟩, hokr⟩ := h
  refine ⟨?_, hokr, hd8, htv⟩
  cases hc : tagC t with
  | true => rw [hc] at hb; simp only [cond_true, Bool.and_eq_true] at hb; exact hb.2
  | false =>
    rw [hc] at hb
    simp only [cond_false] at hb
    have hk0 : k = .nil := by cases k with | nil => rfl | cons a b c d => simp [Tl.isNil] at hb
    subst hk0; rfl
theorem rlines_loop (N n : Nat) (f : List V → List UInt8 → Option (List UInt8)) (d : Int) (ind : List UInt8) (hi : (ind.length : Int) ≤ 2 * d) (hN : 10000 < N)
    (hf : d ≤ 8 → ∀ (k : Tl), k.nodes < n → k.wf → okL (d + 1) k = true → k.wt ≤ 6000 → f k.enc (ind ++ [32, 32]) = some (txt (ind ++ [32, 32]) k)) :
    ∀ (l : Tl) (pre : List V) (acc : List UInt8) (t : Nat), l.len < t → l.nodes ≤ n → l.wf → l.wt ≤ 6000 → okL d l = true → pre.length + l.len ≤ 6000 → acc.length + 40 * l.wt ≤ 1000000 →
      S_rlines_3 N f (pre ++ l.enc) ind t acc (pre.length : Int) (fun l0 => some l0) = some (acc ++ txt ind l)
  | l, pre, acc, 0, ht, _, _, _, _, _, _ => by omega
  | .nil, pre, acc, t + 1, ht, _, _, _, _, _, _ => by
    unfold S_rlines_3 F_rlines_3
    simp only [Tl.enc, br_dec, endI, if_false]; simp [txt]
  | .cons tg v k r, pre, acc, t + 1, ht, hn, hw, hwt, hok, hl, ha => by
    simp only [Tl.len, Tl.nodes, Tl.wt] at ht hn hl hwt ha
    obtain ⟨ht1, hv, hk1, hk2, hr⟩ := hw
    have hlen := txt_len _ d ind hok hi
    obtain ⟨ok1, ok2, hd8, htv⟩ := kids_ok hok
    have htr := tagV_range htv
    obtain ⟨h1, h2, h3, h4⟩ := stepI pre (.agg [.int .i64 tg, .bytes v, .sl 40 k.enc]) r.enc (by rw [Tl.enc_len]; omega)
    have hlr := txt_len r d ind ok2 hi
    have hlk := txt_len k (d + 1) (ind ++ [32, 32]) ok1 (by simp; omega)
    have ih := rlines_loop N n f d ind hi hN hf r (pre ++ [.agg [.int .i64 tg, .bytes v, .sl 40 k.enc]]) (acc ++ (ind ++ hexB (tagB tg) ++ (if (v.length : Int) = 0 then [] else 32 :: hexB v) ++ [10] ++ txt (ind ++ [32, 32]) k)) t (by omega) (by omega) hr (by omega) ok2 (by simp; omega) (by
      simp only [txt, List.length_append, List.length_cons, List.length_nil, Tl.wt] at hlen ⊢
      have h4 := hexB_len (tagB tg)
      have ht := tagB_len tg
      have h3 : (if (v.length : Int) = 0 then [] else 32 :: hexB v : List UInt8).length ≤ 1 + 2 * v.length := by
        split
        · simp
        · rw [List.length_cons, hexB_len]; omega
      omega)
    rw [← mid, ← h3] at ih
    have b1 : ∀ x : Int, 0 ≤ x → x ≤ 65535 → UInt8.ofNat (IntKind.u8.wrap (IntKind.i64.wrap (x.tdiv 256))).toNat = byteI (x / 256) := fun x q1 q2 => by
      rw [Int.tdiv_eq_ediv_of_nonneg q1, w64 (by omega) (by omega), wu8]; rfl
    have b2 : ∀ x : Int, 0 ≤ x → x ≤ 65535 → UInt8.ofNat (IntKind.u8.wrap (x.tmod 256)).toNat = byteI x := fun x q1 q2 => by
      rw [Int.tmod_eq_emod_of_nonneg q1, wu8]; unfold byteI; rw [Int.emod_emod_of_dvd x (Int.dvd_refl 256)]
    have hx1 : ∀ u : UInt8, (hexB [u]).length = 2 := fun u => hexB_len [u]
    have hxv := hexB_len v
    unfold S_rlines_3 F_rlines_3
    simp only [Tl.enc, br_dec, br_and, unInt_mk, unBytes_mk, unSl_mk, unAgg_mk, unCons_mk, unNil_mk, at_mid, h1, h2, if_true, Int.toNat_natCast, b1 tg (by omega) (by omega), b2 tg (by omega) (by omega), rHex_eq N [byteI (tg / 256)] (by simp; omega) (by simp), rHex_eq N [byteI tg] (by simp; omega) (by simp), rHex_eq N v (by omega) (by omega), bnd1_mk, hf hd8 k (by omega) hk2 ok1 (by omega)]
    have hi2 : ind.length ≤ 16 := by omega
    have g0 : acc.length + ind.length ≤ 9223372036854775807 := by omega
    have g9 : ind.length + 2 ≤ 9223372036854775807 := by omega
    simp only [g0, g9, if_true, List.length_append, List.length_cons, List.length_nil, hx1, hxv]
    by_cases c1 : 255 < tg
    · have e1 : hexB (tagB tg) = hexB [byteI (tg / 256)] ++ hexB [byteI tg] := by unfold tagB; rw [if_pos c1]; rfl
      rw [e1] at ih
      by_cases c2 : (0 : Int) < v.length
      · rw [if_neg (by omega)] at ih
        rw [if_pos c1, if_pos (by omega), if_pos (by omega), if_pos c2, if_pos (by omega), if_pos (by omega), if_pos (by omega), if_pos (by omega)]
        rw [txt, e1, if_neg (show ¬ ((v.length : Int) = 0) by omega)]
        simp only [List.append_assoc, List.cons_append, List.nil_append] at ih ⊢
        exact ih
      · rw [if_pos (by omega)] at ih
        rw [if_pos c1, if_pos (by omega), if_pos (by omega), if_neg c2, if_pos (by omega), if_pos (by omega)]
        rw [txt, e1, if_pos (show (v.length : Int) = 0 by omega)]
        simp only [List.append_assoc, List.cons_append, List.nil_append] at ih ⊢
        exact ih
    · have e1 : hexB (tagB tg) = hexB [byteI tg] := by unfold tagB; rw [if_neg c1]
      rw [e1] at ih
      by_cases c2 : (0 : Int) < v.length
      · rw [if_neg (by omega)] at ih
        rw [if_neg c1, if_pos (by omega), if_pos c2, if_pos (by omega), if_pos (by omega), if_pos (by omega), if_pos (by omega)]
        rw [txt, e1, if_neg (show ¬ ((v.length : Int) = 0) by omega)]
        simp only [List.append_assoc, List.cons_append, List.nil_append] at ih ⊢
        exact ih
      · rw [if_pos (by omega)] at ih
        rw [if_neg c1, if_pos (by omega), if_neg c2, if_pos (by omega), if_pos (by omega)]
        rw [txt, e1, if_pos (show (v.length : Int) = 0 by omega)]
        simp only [List.append_assoc, List.cons_append, List.nil_append] at ih ⊢
        exact ih
theorem rlines_eq (N : Nat) (hN : 10000 < N) : ∀ (M : Nat) (l : Tl) (d : Int) (ind : List UInt8), l.nodes < M → l.wf → l.wt ≤ 6000 → okL d l = true → (ind.length : Int) ≤ 2 * d → s_rlines N M l.enc ind = some (txt ind l)
  | 0, l, d, ind, h, _, _, _, _ => by omega
  | M + 1, l, d, ind, h, hw, hwt, hok, hi => by
    have := l.len_wt
    unfold s_rlines B_rlines
    have := rlines_loop N l.nodes (s_rlines N M) d ind hi hN (fun h8 k hk hkw hko hkt => rlines_eq N hN M k (d + 1) (ind ++ [32, 32]) (by omega) hkw hkt hko (by simp; omega)) l [] [] N (by omega) (Nat.le_refl _) hw hwt hok (by simp; omega) (by simp; omega)
    simpa using this
theorem WriteString_eq (N : Nat) (x y : List UInt8) (h : y.length + x.length ≤ 2000000) : s_WriteString N x y = some ((x.length : Int), y ++ x) := by
  unfold s_WriteString C_WriteString s_copyCheck
  rw [bnd1_mk, br_dec, if_pos (by omega)]
theorem Text1_loop (N n : Nat) (f : List V → List UInt8 → List UInt8 → Option (List UInt8)) (d : Int) (ind : List UInt8) (hi : (ind.length : Int) ≤ 2 * d) (hN : 10000 < N)
    (hf : d ≤ 8 → ∀ (k : Tl) (acc : List UInt8), k.nodes < n → k.wf → okL (d + 1) k = true → k.wt ≤ 6000 → acc.length + 40 * k.wt ≤ 1000000 → f k.enc (ind ++ [32, 32]) acc = some (acc ++ txt (ind ++ [32, 32]) k)) :
    ∀ (l : Tl) (pre : List V) (acc : List UInt8) (t : Nat), l.len < t → l.nodes ≤ n → l.wf → l.wt ≤ 6000 → okL d l = true → pre.length + l.len ≤ 6000 → acc.length + 40 * l.wt ≤ 1000000 →
      S_Text1_1 N f ind (pre ++ l.enc) ((pre ++ l.enc).length : Int) t (pre.length : Int) acc (fun l0 => some l0) = some (acc ++ txt ind l)
  | l, pre, acc, 0, ht, _, _, _, _, _, _ => by omega
  | .nil, pre, acc, t + 1, ht, _, _, _, _, _, _ => by
    unfold S_Text1_1 F_Text1_1
    simp only [Tl.enc, br_dec, endI, if_false]; simp [txt]
  | .cons tg v k r, pre, acc, t + 1, ht, hn, hw, hwt, hok, hl, ha => by
    simp only [Tl.len, Tl.nodes, Tl.wt] at ht hn hl hwt ha
    obtain ⟨ht1, hv, hk1, hk2, hr⟩ := hw
    have hlen := txt_len _ d ind hok hi
    obtain ⟨ok1, ok2, hd8, htv⟩ := kids_ok hok
    obtain ⟨h1, h2, h3, h4⟩ := stepI pre (.agg [.int .i64 tg, .bytes v, .sl 40 k.enc]) r.enc (by rw [Tl.enc_len]; omega)
    have hlr := txt_len r d ind ok2 hi
    have hlk := txt_len k (d + 1) (ind ++ [32, 32]) ok1 (by simp; omega)
    have hxt := hexB_len (tagB tg)
    have htl := tagB_len tg
    have hxv := hexB_len v
    have hvl : (if (v.length : Int) = 0 then [] else 32 :: hexB v : List UInt8).length ≤ 1 + 2 * v.length := by
      split
      · simp
      · rw [List.length_cons, hxv]; omega
    have ih := Text1_loop N n f d ind hi hN hf r (pre ++ [.agg [.int .i64 tg, .bytes v, .sl 40 k.enc]]) (acc ++ (ind ++ hexB (tagB tg) ++ (if (v.length : Int) = 0 then [] else 32 :: hexB v) ++ [10] ++ txt (ind ++ [32, 32]) k)) t (by omega) (by omega) hr (by omega) ok2 (by simp; omega) (by
      simp only [txt, List.length_append, List.length_cons, List.length_nil, Tl.wt] at hlen ⊢
      omega)
    rw [← mid, ← h3] at ih
    have hi2 : ind.length ≤ 16 := by omega
    unfold S_Text1_1 F_Text1_1
    simp only [Tl.enc, br_dec, br_and, unInt_mk, unBytes_mk, unSl_mk, unAgg_mk, unCons_mk, unNil_mk, at_mid, h1, h2, if_true, Int.toNat_natCast, tagBytes_eq, Hex_eq N (tagB tg) (by omega) (by omega), Hex_eq N v (by omega) (by omega), bnd1_mk]
    rw [if_pos (by omega), WriteString_eq N _ _ (by simp; omega), bnd2_mk]
    by_cases c2 : (0 : Int) < v.length
    · rw [if_neg (by omega)] at ih
      rw [if_pos c2, if_pos (by omega)]
      have e : (32 :: [].append (hexB v) : List UInt8) = 32 :: hexB v := rfl
      rw [e, WriteString_eq N _ _ (by simp; omega), bnd2_mk, WriteString_eq N _ _ (by simp; omega), bnd2_mk, if_pos (by omega), hf hd8 k _ (by omega) hk2 ok1 (by omega) (by simp; omega), bnd1_mk]
      rw [txt, if_neg (show ¬ ((v.length : Int) = 0) by omega)]
      simp only [List.append_assoc, List.cons_append, List.nil_append] at ih ⊢
      exact ih
    · rw [if_pos (by omega)] at ih
      rw [if_neg c2, WriteString_eq N _ _ (by simp; omega), bnd2_mk, if_pos (by omega), hf hd8 k _ (by omega) hk2 ok1 (by omega) (by simp; omega), bnd1_mk]
      rw [txt, if_pos (show (v.length : Int) = 0 by omega)]
      simp only [List.append_assoc, List.cons_append, List.nil_append] at ih ⊢
      exact ih
theorem Text1_eq (N : Nat) (hN : 10000 < N) : ∀ (M : Nat) (l : Tl) (d : Int) (ind acc : List UInt8), l.nodes < M → l.wf → l.wt ≤ 6000 → okL d l = true → (ind.length : Int) ≤ 2 * d → acc.length + 40 * l.wt ≤ 1000000 → s_Text1 N M l.enc ind acc = some (acc ++ txt ind l)
  | 0, l, d, ind, acc, h, _, _, _, _, _ => by omega
  | M + 1, l, d, ind, acc, h, hw, hwt, hok, hi, ha => by
    have := l.len_wt
    unfold s_Text1 C_Text1
    have := Text1_loop N l.nodes (s_Text1 N M) d ind hi hN (fun h8 k acc hk hkw hko hkt hka => Text1_eq N hN M k (d + 1) (ind ++ [32, 32]) acc (by omega) hkw hkt hko (by simp; omega) hka) l [] acc N (by omega) (Nat.le_refl _) hw hwt hok (by simp; omega) ha
    simpa using this
/-- Text -/
def textR (l : Tl) : List UInt8 := if (encR l).2 = 0 then txt [] l else []
theorem encR_ok {l : Tl} (h : (encR l).2 = 0) : okL 1 l = true ∧ (encL l).length ≤ 4096 ∧ (encR l).1 = encL l := by
  unfold encR at h ⊢
  split
  · rename_i h1
    rw [if_pos h1] at h
    split
    · rename_i h2; exact ⟨h1, h2, rfl⟩
    · rename_i h2; rw [if_neg h2] at h; cases h
  · rename_i h1; rw [if_neg h1] at h; cases h
theorem Text_eq (N : Nat) (l : Tl) (hN : 10000 < N) (hn : l.nodes < N) (hw : l.wf) (hwt : l.wt ≤ 6000) : s_Text N l.enc = some (textR l) := by
  have := l.len_wt
  unfold s_Text textR s_bString
  rw [Encode_eq N l hn hw (by show l.len ≤ _; omega) (by omega)]
  generalize h : encR l = q
  obtain ⟨b, e⟩ := q
  rw [bnd2_mk, br_not, br_dec]
  by_cases h0 : e = 0
  · have h0' : (encR l).2 = 0 := by rw [h]; exact h0
    obtain ⟨ok, _, _⟩ := encR_ok h0'
    rw [if_pos h0, Text1_eq N hN N l 1 [] [] hn hw hwt ok (by simp) (by simp; omega), bnd1_mk, if_pos h0]; rfl
  · rw [if_neg h0, if_neg h0]
theorem rText_eq (N : Nat) (l : Tl) (hN : 10000 < N) (hn : l.nodes < N) (hw : l.wf) (hwt : l.wt ≤ 6000) : s_rText N l.enc = some (textR l) := by
  have := l.len_wt
  unfold s_rText textR
  rw [rEncode_eq N l hn hw (by show l.len ≤ _; omega) (by omega)]
  generalize h : encR l = q
  obtain ⟨b, e⟩ := q
  rw [bnd2_mk, br_not, br_dec]
  by_cases h0 : e = 0
  · have h0' : (encR l).2 = 0 := by rw [h]; exact h0
    obtain ⟨ok, _, _⟩ := encR_ok h0'
    rw [if_pos h0, rlines_eq N hN N l 1 [] hn hw hwt ok (by simp), bnd1_mk, if_pos h0]
  · rw [if_neg h0, if_neg h0]
end Go.Proofs.Ytdiieghcakhkdaa.En
