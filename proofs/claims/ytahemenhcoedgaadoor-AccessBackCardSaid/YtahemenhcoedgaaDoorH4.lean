/- Several texts in one. -/
import Derived.Test.YtahemenhcoedgaaDoorH3

set_option linter.unusedSimpArgs false
set_option linter.unusedVariables false
set_option linter.unusedSectionVars false
/- Functions of the program in plain Lean, joined to the program by evaluation; printed by a program. -/
namespace Go.Proofs.YtahemenhcoedgaaDoor.En
open Go Go.Proofs
set_option maxRecDepth 100000
set_option linter.unusedVariables false
noncomputable def e_satyes {R : Type} (s : Int → Int → List V → Int → Int → Int → Int → Option (Bool)) (dst : Nat) (ds : List D) (m : Mem) (K : List D → Mem → Option R) : Option R :=
  match ds with
  | [.agg [.v (.int .i64 x0) .no, .v (.int .i64 x1) .no, .v (.sl 24 x2) .no], .ptr (kv0 + 1) sv0 0] => viewK [(kv0, sv0)] m fun Bs => (match Bs with
    | [⟨31, [.v (.int .i64 y0) .no, .v (.int .i64 y1) .no, .v (.int .i64 y2) .no, .v (.int .i64 y3) .no]⟩] => bnd1 (s x0 x1 x2 y0 y1 y2 y3) fun r0 => putAllK [(kv0, sv0)] [⟨31, [.v (.int .i64 y0) .no, .v (.int .i64 y1) .no, .v (.int .i64 y2) .no, .v (.int .i64 y3) .no]⟩] m fun m' => K [.v (.bool r0) .no] m'
    | _ => none)
  | _ => none
noncomputable def r_satyes {α : Type} (K : Bool → Int → Int → Int → Int → Option α) (rs : List D) (m : Mem) : Option α :=
  match rs, m with
  | [.v (.bool r0) _], [_, [(0, ⟨31, [.v (.int .i64 z0) .no, .v (.int .i64 z1) .no, .v (.int .i64 z2) .no, .v (.int .i64 z3) .no]⟩)]] => K r0 z0 z1 z2 z3
  | _, _ => none
noncomputable def C_satyes {R : Type} (N : Nat) (f : Int → Int → List V → Int → Int → Int → Int → Option (Bool)) (x0 : Int) (x1 : Int) (x2 : List V) (y0 : Int) (y1 : Int) (y2 : Int) (y3 : Int) (K0 : Bool → Option R) : Option R :=
  bnd1 (f x0 x1 x2 y0 y1 y2 y3) fun b0 => K0 b0
noncomputable def s_satyes (N : Nat) (f : Int → Int → List V → Int → Int → Int → Int → Option (Bool)) (x0 : Int) (x1 : Int) (x2 : List V) (y0 : Int) (y1 : Int) (y2 : Int) (y3 : Int) : Option (Bool) :=
  C_satyes N f x0 x1 x2 y0 y1 y2 y3 (fun r0 => some r0)
noncomputable def cx_satyes (N : Nat) (f : Int → Int → List V → Int → Int → Int → Int → Option (Bool)) : Cx := { T := T, isPure := tabP [⟨44, e_asat f⟩], pureK := fun g ds K => tabK [⟨44, e_asat f⟩] g ds K, memK := fun g dst ds m K => tabMK [] g dst ds m K, meth := tabM [], keep := fun _ => [], keepX := fun _ => [], loopT := fun _ _ _ _ => none, jumps := 9 }
theorem C_satyes_ok {R : Type} (N : Nat) (f : Int → Int → List V → Int → Int → Int → Int → Option (Bool)) (x0 : Int) (x1 : Int) (x2 : List V) (y0 : Int) (y1 : Int) (y2 : Int) (y3 : Int) (K : Bool → Int → Int → Int → Int → Option R) : bodyK (cx_satyes N f) Tryd.f71 [.agg [.v (.int .i64 x0) .no, .v (.int .i64 x1) .no, .v (.sl 24 x2) .no], .ptr 1 0 0] [frOf 0 [⟨31, [.v (.int .i64 y0) .no, .v (.int .i64 y1) .no, .v (.int .i64 y2) .no, .v (.int .i64 y3) .no]⟩]] (r_satyes K) = C_satyes N f x0 x1 x2 y0 y1 y2 y3 (fun r0 => K r0 y0 y1 y2 y3) := by
  kernel_rfl
theorem go_satyes : Goes Tryd.prog 71 := goes_of Tryd.func71 (by kernel_rfl) (c := bodyOf Tryd.f71) (by kernel_rfl)
theorem eo_satyes (s : Int → Int → List V → Int → Int → Int → Int → Option (Bool)) (hs : ∀ (x0 : Int) (x1 : Int) (x2 : List V) (y0 : Int) (y1 : Int) (y2 : Int) (y3 : Int) (r0 : Bool), s x0 x1 x2 y0 y1 y2 y3 = some r0 → ViewRet Tryd.prog T 71 [.agg [.v (.int .i64 x0) .no, .v (.int .i64 x1) .no, .v (.sl 24 x2) .no], .ptr 1 0 0] [⟨31, [.v (.int .i64 y0) .no, .v (.int .i64 y1) .no, .v (.int .i64 y2) .no, .v (.int .i64 y3) .no]⟩] [.v (.bool r0) .no] [⟨31, [.v (.int .i64 y0) .no, .v (.int .i64 y1) .no, .v (.int .i64 y2) .no, .v (.int .i64 y3) .no]⟩]) : MEntOK Tryd.prog T ⟨71, e_satyes s⟩ := by
  refine ⟨go_satyes, fun R dst ds m K r h => ?_⟩
  simp only [e_satyes] at h
  split at h
  · obtain ⟨Bs, a1, a2, a3, h⟩ := viewK_some h
    split at h
    · obtain ⟨r0, h1, h2⟩ := bnd1_some h
      rw [putAllK_eq] at h2
      exact ⟨_, _, h2, hs _ _ _ _ _ _ _ _ h1 _ _ m dst a1 a2 a3 ⟨aren_agg ⟨aren_v _, aren_v _, aren_v _, trivial⟩, aren_ptr _ rfl, trivial⟩⟩
    · cases h
  · cases h
theorem co_satyes (N : Nat) (f : Int → Int → List V → Int → Int → Int → Int → Option (Bool)) (hf : ∀ (x0 : Int) (x1 : Int) (x2 : List V) (x3 : Int) (x4 : Int) (x5 : Int) (x6 : Int) (r0 : Bool), f x0 x1 x2 x3 x4 x5 x6 = some r0 → PureRet Tryd.prog T 44 [.agg [.v (.int .i64 x0) .no, .v (.int .i64 x1) .no, .v (.sl 24 x2) .no], .agg [.v (.int .i64 x3) .no, .v (.int .i64 x4) .no, .v (.int .i64 x5) .no, .v (.int .i64 x6) .no]] [.v (.bool r0) .no]) : CxOK Tryd.prog (cx_satyes N f) :=
  cxOK_of2 (es := [⟨44, e_asat f⟩]) (me := []) (ms := []) T_ok ⟨eo_asat f hf, trivial⟩ trivial trivial rfl (fun _ _ _ _ => rfl) (fun _ _ _ _ _ _ => rfl) rfl
theorem lo_satyes (N : Nat) (f : Int → Int → List V → Int → Int → Int → Int → Option (Bool)) : LoopsOK (cx_satyes N f) Tryd.f71.ntmps (bodyOf Tryd.f71) :=
  loopsOK_of (k := 0) (by kernel_rfl) trivial
open Classical in
theorem p_satyes (N : Nat) (f : Int → Int → List V → Int → Int → Int → Int → Option (Bool)) (hf : ∀ (x0 : Int) (x1 : Int) (x2 : List V) (x3 : Int) (x4 : Int) (x5 : Int) (x6 : Int) (r0 : Bool), f x0 x1 x2 x3 x4 x5 x6 = some r0 → PureRet Tryd.prog T 44 [.agg [.v (.int .i64 x0) .no, .v (.int .i64 x1) .no, .v (.sl 24 x2) .no], .agg [.v (.int .i64 x3) .no, .v (.int .i64 x4) .no, .v (.int .i64 x5) .no, .v (.int .i64 x6) .no]] [.v (.bool r0) .no]) (x0 : Int) (x1 : Int) (x2 : List V) (y0 : Int) (y1 : Int) (y2 : Int) (y3 : Int) (r0 : Bool) (h : s_satyes N f x0 x1 x2 y0 y1 y2 y3 = some r0) : ViewRet Tryd.prog T 71 [.agg [.v (.int .i64 x0) .no, .v (.int .i64 x1) .no, .v (.sl 24 x2) .no], .ptr 1 0 0] [⟨31, [.v (.int .i64 y0) .no, .v (.int .i64 y1) .no, .v (.int .i64 y2) .no, .v (.int .i64 y3) .no]⟩] [.v (.bool r0) .no] [⟨31, [.v (.int .i64 y0) .no, .v (.int .i64 y1) .no, .v (.int .i64 y2) .no, .v (.int .i64 y3) .no]⟩] := by
  refine view_of (Bs := [⟨31, [.v (.int .i64 y0) .no, .v (.int .i64 y1) .no, .v (.int .i64 y2) .no, .v (.int .i64 y3) .no]⟩]) (Bs' := [⟨31, [.v (.int .i64 y0) .no, .v (.int .i64 y1) .no, .v (.int .i64 y2) .no, .v (.int .i64 y3) .no]⟩]) (cx := cx_satyes N f) (by kernel_rfl) (co_satyes N f hf) Tryd.func71 (by kernel_rfl) (by kernel_rfl) (lo_satyes N f) rfl rfl rfl rfl (rf := r_satyes (fun r0' z'0 z'1 z'2 z'3 => if z'0 = y0 ∧ z'1 = y1 ∧ z'2 = y2 ∧ z'3 = y3 then some r0' else none)) (r := r0) ?_ ?_
  · exact (C_satyes_ok N f x0 x1 x2 y0 y1 y2 y3 _).trans ((congrArg (fun K => C_satyes N f x0 x1 x2 y0 y1 y2 y3 K) (funext fun r0' => if_pos ⟨rfl, rfl, rfl, rfl⟩)).trans h)
  · intro rs' m' hx
    unfold r_satyes at hx
    split at hx
    · dsimp only at hx
      split at hx
      · rename_i hk
        obtain ⟨rfl, rfl, rfl, rfl⟩ := hk
        cases hx; exact ⟨rfl, rfl, _, rfl⟩
      · cases hx
    · cases hx
noncomputable def e_IndexFuncN {R : Type} (s : List V → Int → Int → Int → Int → Option (Int)) (dst : Nat) (ds : List D) (m : Mem) (K : List D → Mem → Option R) : Option R :=
  match ds with
  | [.v (.sl 24 x0) .no, .clos 70 [.ptr (kv0 + 1) sv0 0]] => viewK [(kv0, sv0)] m fun Bs => (match Bs with
    | [⟨31, [.v (.int .i64 y0) .no, .v (.int .i64 y1) .no, .v (.int .i64 y2) .no, .v (.int .i64 y3) .no]⟩] => bnd1 (s x0 y0 y1 y2 y3) fun r0 => putAllK [(kv0, sv0)] [⟨31, [.v (.int .i64 y0) .no, .v (.int .i64 y1) .no, .v (.int .i64 y2) .no, .v (.int .i64 y3) .no]⟩] m fun m' => K [.v (.int .i64 r0) .no] m'
    | _ => none)
  | _ => none
noncomputable def r_IndexFuncN {α : Type} (K : Int → Int → Int → Int → Int → Option α) (rs : List D) (m : Mem) : Option α :=
  match rs, m with
  | [.v (.int .i64 r0) _], [_, [(0, ⟨31, [.v (.int .i64 z0) .no, .v (.int .i64 z1) .no, .v (.int .i64 z2) .no, .v (.int .i64 z3) .no]⟩)]] => K r0 z0 z1 z2 z3
  | _, _ => none
noncomputable def F_IndexFuncN_2 {R : Type} (N : Nat) (f : Int → Int → List V → Int → Int → Int → Int → Option (Bool)) (vs0 : List V) (n1 : Int) (n3 : Int) (n4 : Int) (n5 : Int) (n6 : Int) (Lq : Int → Option R) (K0 : Int → Option R) (K1 : Option R) (n2 : Int) : Option R :=
  br (decide (n2 < n1))
  (br (decide (0 ≤ n2) && decide (n2 < (↑vs0.length : Int)))
    (at? vs0 n2.toNat fun x0 =>
      x0.unAgg fun l1 =>
        unCons l1 fun x2 l3 =>
          V.unInt IntKind.i64 x2 fun n4_1 =>
            unCons l3 fun x5 l6 => V.unInt IntKind.i64 x5 fun n7 => unCons l6 fun x8 l9 => V.unSl 24 x8 fun l10 => unNil l9 (bnd1 (s_satno N f n4_1 n7 l10 n3 n4 n5 n6) fun b11 => br b11 (K0 n2) (Lq (IntKind.i64.wrap (n2 + 1)))))
    none)
  K1
noncomputable def S_IndexFuncN_2 {R : Type} (N : Nat) (f : Int → Int → List V → Int → Int → Int → Int → Option (Bool)) (vs0 : List V) (n1 : Int) (n3 : Int) (n4 : Int) (n5 : Int) (n6 : Int) : Nat → Int → (Int → Option R) → (Option R) → Option R
  | 0, _, _, _ => none
  | t + 1, n2, K0, K1 => F_IndexFuncN_2 N f vs0 n1 n3 n4 n5 n6 (fun n2 => S_IndexFuncN_2 N f vs0 n1 n3 n4 n5 n6 t n2 K0 K1) K0 K1 n2
noncomputable def l_IndexFuncN_2 {R : Type} (N : Nat) (f : Int → Int → List V → Int → Int → Int → Int → Option (Bool)) (ds : List D) (m : Mem) (K : Ex → List D → Mem → Option R) : Option R :=
  match ds, m with
  | [(.v (.sl 24 vs0) .no), (.clos 70 [(.ptr 1 0 0)]), (.v (.int .i64 n1) .no), (.v (.int .i64 n2) .no)], [[], [(0, ⟨31, [(.v (.int .i64 n3) .no), (.v (.int .i64 n4) .no), (.v (.int .i64 n5) .no), (.v (.int .i64 n6) .no)]⟩)]] => S_IndexFuncN_2 N f vs0 n1 n3 n4 n5 n6 N n2 (fun a0 => K .ret [(.v (.int .i64 a0) .no)] [[], [(0, ⟨31, [(.v (.int .i64 n3) .no), (.v (.int .i64 n4) .no), (.v (.int .i64 n5) .no), (.v (.int .i64 n6) .no)]⟩)]]) (K (.exit 0) [.any] [[], [(0, ⟨31, [(.v (.int .i64 n3) .no), (.v (.int .i64 n4) .no), (.v (.int .i64 n5) .no), (.v (.int .i64 n6) .no)]⟩)]])
  | _, _ => none
noncomputable def C_IndexFuncN {R : Type} (N : Nat) (f : Int → Int → List V → Int → Int → Int → Int → Option (Bool)) (x0 : List V) (y0 : Int) (y1 : Int) (y2 : Int) (y3 : Int) (K0 : Int → Option R) : Option R :=
  S_IndexFuncN_2 N f x0 (↑x0.length : Int) y0 y1 y2 y3 N 0 (fun n0 => K0 n0) (K0 (-1))
noncomputable def s_IndexFuncN (N : Nat) (f : Int → Int → List V → Int → Int → Int → Int → Option (Bool)) (x0 : List V) (y0 : Int) (y1 : Int) (y2 : Int) (y3 : Int) : Option (Int) :=
  C_IndexFuncN N f x0 y0 y1 y2 y3 (fun r0 => some r0)
noncomputable def cx_IndexFuncN (N : Nat) (f : Int → Int → List V → Int → Int → Int → Int → Option (Bool)) : Cx := { T := T, isPure := tabP [], pureK := fun g ds K => tabK [] g ds K, memK := fun g dst ds m K => tabMK [⟨70, e_satno (s_satno N f)⟩] g dst ds m K, meth := tabM [], keep := fun r => match r with | 2 => [0, 1, 7, 8] | _ => [], keepX := fun r => match r with | 2 => [4] | _ => [], loopT := fun r ds m K => match r with | 2 => l_IndexFuncN_2 N f ds m K | _ => none, jumps := 9 }
theorem F_IndexFuncN_2_ok {R : Type} (N : Nat) (f : Int → Int → List V → Int → Int → Int → Int → Option (Bool)) (vs0 : List V) (n1 : Int) (n3 : Int) (n4 : Int) (n5 : Int) (n6 : Int) (n2 : Int) (L : List D → Mem → Option R) (K : Ex → List D → Mem → Option R) :
    roundK (fun st K => codeK (cx_IndexFuncN N f) (loopN Tryd.f90 0) st K) 19 [0, 1, 7, 8] [4] L [(.v (.sl 24 vs0) .no), (.clos 70 [(.ptr 1 0 0)]), (.v (.int .i64 n1) .no), (.v (.int .i64 n2) .no)] [[], [(0, ⟨31, [(.v (.int .i64 n3) .no), (.v (.int .i64 n4) .no), (.v (.int .i64 n5) .no), (.v (.int .i64 n6) .no)]⟩)]] K = F_IndexFuncN_2 N f vs0 n1 n3 n4 n5 n6 (fun n2 => L [(.v (.sl 24 vs0) .no), (.clos 70 [(.ptr 1 0 0)]), (.v (.int .i64 n1) .no), (.v (.int .i64 n2) .no)] [[], [(0, ⟨31, [(.v (.int .i64 n3) .no), (.v (.int .i64 n4) .no), (.v (.int .i64 n5) .no), (.v (.int .i64 n6) .no)]⟩)]]) (fun a0 => K .ret [(.v (.int .i64 a0) .no)] [[], [(0, ⟨31, [(.v (.int .i64 n3) .no), (.v (.int .i64 n4) .no), (.v (.int .i64 n5) .no), (.v (.int .i64 n6) .no)]⟩)]]) (K (.exit 0) [.any] [[], [(0, ⟨31, [(.v (.int .i64 n3) .no), (.v (.int .i64 n4) .no), (.v (.int .i64 n5) .no), (.v (.int .i64 n6) .no)]⟩)]]) n2 := by
  kernel_rfl
theorem S_IndexFuncN_2_ok {R : Type} (N : Nat) (f : Int → Int → List V → Int → Int → Int → Int → Option (Bool)) (vs0 : List V) (n1 : Int) (n3 : Int) (n4 : Int) (n5 : Int) (n6 : Int) (K : Ex → List D → Mem → Option R) : ∀ (t : Nat) (n2 : Int),
    loopK (fun st K => codeK (cx_IndexFuncN N f) (loopN Tryd.f90 0) st K) 19 [0, 1, 7, 8] [4] t [(.v (.sl 24 vs0) .no), (.clos 70 [(.ptr 1 0 0)]), (.v (.int .i64 n1) .no), (.v (.int .i64 n2) .no)] [[], [(0, ⟨31, [(.v (.int .i64 n3) .no), (.v (.int .i64 n4) .no), (.v (.int .i64 n5) .no), (.v (.int .i64 n6) .no)]⟩)]] K = S_IndexFuncN_2 N f vs0 n1 n3 n4 n5 n6 t n2 (fun a0 => K .ret [(.v (.int .i64 a0) .no)] [[], [(0, ⟨31, [(.v (.int .i64 n3) .no), (.v (.int .i64 n4) .no), (.v (.int .i64 n5) .no), (.v (.int .i64 n6) .no)]⟩)]]) (K (.exit 0) [.any] [[], [(0, ⟨31, [(.v (.int .i64 n3) .no), (.v (.int .i64 n4) .no), (.v (.int .i64 n5) .no), (.v (.int .i64 n6) .no)]⟩)]])
  | 0, n2 => rfl
  | t + 1, n2 => (F_IndexFuncN_2_ok N f vs0 n1 n3 n4 n5 n6 n2 _ K).trans (congrArg (fun L => F_IndexFuncN_2 N f vs0 n1 n3 n4 n5 n6 L (fun a0 => K .ret [(.v (.int .i64 a0) .no)] [[], [(0, ⟨31, [(.v (.int .i64 n3) .no), (.v (.int .i64 n4) .no), (.v (.int .i64 n5) .no), (.v (.int .i64 n6) .no)]⟩)]]) (K (.exit 0) [.any] [[], [(0, ⟨31, [(.v (.int .i64 n3) .no), (.v (.int .i64 n4) .no), (.v (.int .i64 n5) .no), (.v (.int .i64 n6) .no)]⟩)]]) n2) (funext fun n2 => S_IndexFuncN_2_ok N f vs0 n1 n3 n4 n5 n6 K t n2))
theorem C_IndexFuncN_ok {R : Type} (N : Nat) (f : Int → Int → List V → Int → Int → Int → Int → Option (Bool)) (x0 : List V) (y0 : Int) (y1 : Int) (y2 : Int) (y3 : Int) (K : Int → Int → Int → Int → Int → Option R) : bodyK (cx_IndexFuncN N f) Tryd.f90 [.v (.sl 24 x0) .no, .clos 70 [.ptr 1 0 0]] [frOf 0 [⟨31, [.v (.int .i64 y0) .no, .v (.int .i64 y1) .no, .v (.int .i64 y2) .no, .v (.int .i64 y3) .no]⟩]] (r_IndexFuncN K) = C_IndexFuncN N f x0 y0 y1 y2 y3 (fun r0 => K r0 y0 y1 y2 y3) := by
  kernel_rfl
theorem go_IndexFuncN : Goes Tryd.prog 90 := goes_of Tryd.func90 (by kernel_rfl) (c := bodyOf Tryd.f90) (by kernel_rfl)
theorem eo_IndexFuncN (s : List V → Int → Int → Int → Int → Option (Int)) (hs : ∀ (x0 : List V) (y0 : Int) (y1 : Int) (y2 : Int) (y3 : Int) (r0 : Int), s x0 y0 y1 y2 y3 = some r0 → ViewRet Tryd.prog T 90 [.v (.sl 24 x0) .no, .clos 70 [.ptr 1 0 0]] [⟨31, [.v (.int .i64 y0) .no, .v (.int .i64 y1) .no, .v (.int .i64 y2) .no, .v (.int .i64 y3) .no]⟩] [.v (.int .i64 r0) .no] [⟨31, [.v (.int .i64 y0) .no, .v (.int .i64 y1) .no, .v (.int .i64 y2) .no, .v (.int .i64 y3) .no]⟩]) : MEntOK Tryd.prog T ⟨90, e_IndexFuncN s⟩ := by
  refine ⟨go_IndexFuncN, fun R dst ds m K r h => ?_⟩
  simp only [e_IndexFuncN] at h
  split at h
  · obtain ⟨Bs, a1, a2, a3, h⟩ := viewK_some h
    split at h
    · obtain ⟨r0, h1, h2⟩ := bnd1_some h
      rw [putAllK_eq] at h2
      exact ⟨_, _, h2, hs _ _ _ _ _ _ h1 _ _ m dst a1 a2 a3 ⟨aren_v _, aren_clos ⟨aren_ptr _ rfl, trivial⟩, trivial⟩⟩
    · cases h
  · cases h
theorem co_IndexFuncN (N : Nat) (f : Int → Int → List V → Int → Int → Int → Int → Option (Bool)) (hf : ∀ (x0 : Int) (x1 : Int) (x2 : List V) (x3 : Int) (x4 : Int) (x5 : Int) (x6 : Int) (r0 : Bool), f x0 x1 x2 x3 x4 x5 x6 = some r0 → PureRet Tryd.prog T 44 [.agg [.v (.int .i64 x0) .no, .v (.int .i64 x1) .no, .v (.sl 24 x2) .no], .agg [.v (.int .i64 x3) .no, .v (.int .i64 x4) .no, .v (.int .i64 x5) .no, .v (.int .i64 x6) .no]] [.v (.bool r0) .no]) : CxOK Tryd.prog (cx_IndexFuncN N f) :=
  cxOK_of2 (es := []) (me := [⟨70, e_satno (s_satno N f)⟩]) (ms := []) T_ok trivial ⟨eo_satno _ (p_satno N f hf), trivial⟩ trivial rfl (fun _ _ _ _ => rfl) (fun _ _ _ _ _ _ => rfl) rfl
theorem lk_IndexFuncN_2 (N : Nat) (f : Int → Int → List V → Int → Int → Int → Int → Option (Bool)) : LoopOK (cx_IndexFuncN N f) 19 (loopN Tryd.f90 0) := by
  refine loopOK_of (rid := 2) (by kernel_rfl) rfl rfl fun R ds m K r h => ?_
  have h : l_IndexFuncN_2 N f ds m K = some r := h
  unfold l_IndexFuncN_2 at h
  split at h
  · exact ⟨N, Eq.trans (S_IndexFuncN_2_ok ..) h⟩
  · cases h
theorem lo_IndexFuncN (N : Nat) (f : Int → Int → List V → Int → Int → Int → Int → Option (Bool)) : LoopsOK (cx_IndexFuncN N f) Tryd.f90.ntmps (bodyOf Tryd.f90) :=
  loopsOK_of (k := 1) (by kernel_rfl) ⟨trivial, lk_IndexFuncN_2 N f⟩
open Classical in
theorem p_IndexFuncN (N : Nat) (f : Int → Int → List V → Int → Int → Int → Int → Option (Bool)) (hf : ∀ (x0 : Int) (x1 : Int) (x2 : List V) (x3 : Int) (x4 : Int) (x5 : Int) (x6 : Int) (r0 : Bool), f x0 x1 x2 x3 x4 x5 x6 = some r0 → PureRet Tryd.prog T 44 [.agg [.v (.int .i64 x0) .no, .v (.int .i64 x1) .no, .v (.sl 24 x2) .no], .agg [.v (.int .i64 x3) .no, .v (.int .i64 x4) .no, .v (.int .i64 x5) .no, .v (.int .i64 x6) .no]] [.v (.bool r0) .no]) (x0 : List V) (y0 : Int) (y1 : Int) (y2 : Int) (y3 : Int) (r0 : Int) (h : s_IndexFuncN N f x0 y0 y1 y2 y3 = some r0) : ViewRet Tryd.prog T 90 [.v (.sl 24 x0) .no, .clos 70 [.ptr 1 0 0]] [⟨31, [.v (.int .i64 y0) .no, .v (.int .i64 y1) .no, .v (.int .i64 y2) .no, .v (.int .i64 y3) .no]⟩] [.v (.int .i64 r0) .no] [⟨31, [.v (.int .i64 y0) .no, .v (.int .i64 y1) .no, .v (.int .i64 y2) .no, .v (.int .i64 y3) .no]⟩] := by
  refine view_of (Bs := [⟨31, [.v (.int .i64 y0) .no, .v (.int .i64 y1) .no, .v (.int .i64 y2) .no, .v (.int .i64 y3) .no]⟩]) (Bs' := [⟨31, [.v (.int .i64 y0) .no, .v (.int .i64 y1) .no, .v (.int .i64 y2) .no, .v (.int .i64 y3) .no]⟩]) (cx := cx_IndexFuncN N f) (by kernel_rfl) (co_IndexFuncN N f hf) Tryd.func90 (by kernel_rfl) (by kernel_rfl) (lo_IndexFuncN N f) rfl rfl rfl rfl (rf := r_IndexFuncN (fun r0' z'0 z'1 z'2 z'3 => if z'0 = y0 ∧ z'1 = y1 ∧ z'2 = y2 ∧ z'3 = y3 then some r0' else none)) (r := r0) ?_ ?_
  · exact (C_IndexFuncN_ok N f x0 y0 y1 y2 y3 _).trans ((congrArg (fun K => C_IndexFuncN N f x0 y0 y1 y2 y3 K) (funext fun r0' => if_pos ⟨rfl, rfl, rfl, rfl⟩)).trans h)
  · intro rs' m' hx
    unfold r_IndexFuncN at hx
    split at hx
    · dsimp only at hx
      split at hx
      · rename_i hk
        obtain ⟨rfl, rfl, rfl, rfl⟩ := hk
        cases hx; exact ⟨rfl, rfl, _, rfl⟩
      · cases hx
    · cases hx
noncomputable def e_ContainsFuncN {R : Type} (s : List V → Int → Int → Int → Int → Option (Bool)) (dst : Nat) (ds : List D) (m : Mem) (K : List D → Mem → Option R) : Option R :=
  match ds with
  | [.v (.sl 24 x0) .no, .clos 70 [.ptr (kv0 + 1) sv0 0]] => viewK [(kv0, sv0)] m fun Bs => (match Bs with
    | [⟨31, [.v (.int .i64 y0) .no, .v (.int .i64 y1) .no, .v (.int .i64 y2) .no, .v (.int .i64 y3) .no]⟩] => bnd1 (s x0 y0 y1 y2 y3) fun r0 => putAllK [(kv0, sv0)] [⟨31, [.v (.int .i64 y0) .no, .v (.int .i64 y1) .no, .v (.int .i64 y2) .no, .v (.int .i64 y3) .no]⟩] m fun m' => K [.v (.bool r0) .no] m'
    | _ => none)
  | _ => none
noncomputable def r_ContainsFuncN {α : Type} (K : Bool → Int → Int → Int → Int → Option α) (rs : List D) (m : Mem) : Option α :=
  match rs, m with
  | [.v (.bool r0) _], [_, [(0, ⟨31, [.v (.int .i64 z0) .no, .v (.int .i64 z1) .no, .v (.int .i64 z2) .no, .v (.int .i64 z3) .no]⟩)]] => K r0 z0 z1 z2 z3
  | _, _ => none
noncomputable def C_ContainsFuncN {R : Type} (N : Nat) (f : Int → Int → List V → Int → Int → Int → Int → Option (Bool)) (x0 : List V) (y0 : Int) (y1 : Int) (y2 : Int) (y3 : Int) (K0 : Bool → Option R) : Option R :=
  bnd1 (s_IndexFuncN N f x0 y0 y1 y2 y3) fun n0 => K0 (decide (0 ≤ n0))
noncomputable def s_ContainsFuncN (N : Nat) (f : Int → Int → List V → Int → Int → Int → Int → Option (Bool)) (x0 : List V) (y0 : Int) (y1 : Int) (y2 : Int) (y3 : Int) : Option (Bool) :=
  C_ContainsFuncN N f x0 y0 y1 y2 y3 (fun r0 => some r0)
noncomputable def cx_ContainsFuncN (N : Nat) (f : Int → Int → List V → Int → Int → Int → Int → Option (Bool)) : Cx := { T := T, isPure := tabP [], pureK := fun g ds K => tabK [] g ds K, memK := fun g dst ds m K => tabMK [⟨90, e_IndexFuncN (s_IndexFuncN N f)⟩] g dst ds m K, meth := tabM [], keep := fun _ => [], keepX := fun _ => [], loopT := fun _ _ _ _ => none, jumps := 9 }
theorem C_ContainsFuncN_ok {R : Type} (N : Nat) (f : Int → Int → List V → Int → Int → Int → Int → Option (Bool)) (x0 : List V) (y0 : Int) (y1 : Int) (y2 : Int) (y3 : Int) (K : Bool → Int → Int → Int → Int → Option R) : bodyK (cx_ContainsFuncN N f) Tryd.f68 [.v (.sl 24 x0) .no, .clos 70 [.ptr 1 0 0]] [frOf 0 [⟨31, [.v (.int .i64 y0) .no, .v (.int .i64 y1) .no, .v (.int .i64 y2) .no, .v (.int .i64 y3) .no]⟩]] (r_ContainsFuncN K) = C_ContainsFuncN N f x0 y0 y1 y2 y3 (fun r0 => K r0 y0 y1 y2 y3) := by
  kernel_rfl
theorem go_ContainsFuncN : Goes Tryd.prog 68 := goes_of Tryd.func68 (by kernel_rfl) (c := bodyOf Tryd.f68) (by kernel_rfl)
theorem eo_ContainsFuncN (s : List V → Int → Int → Int → Int → Option (Bool)) (hs : ∀ (x0 : List V) (y0 : Int) (y1 : Int) (y2 : Int) (y3 : Int) (r0 : Bool), s x0 y0 y1 y2 y3 = some r0 → ViewRet Tryd.prog T 68 [.v (.sl 24 x0) .no, .clos 70 [.ptr 1 0 0]] [⟨31, [.v (.int .i64 y0) .no, .v (.int .i64 y1) .no, .v (.int .i64 y2) .no, .v (.int .i64 y3) .no]⟩] [.v (.bool r0) .no] [⟨31, [.v (.int .i64 y0) .no, .v (.int .i64 y1) .no, .v (.int .i64 y2) .no, .v (.int .i64 y3) .no]⟩]) : MEntOK Tryd.prog T ⟨68, e_ContainsFuncN s⟩ := by
  refine ⟨go_ContainsFuncN, fun R dst ds m K r h => ?_⟩
  simp only [e_ContainsFuncN] at h
  split at h
  · obtain ⟨Bs, a1, a2, a3, h⟩ := viewK_some h
    split at h
    · obtain ⟨r0, h1, h2⟩ := bnd1_some h
      rw [putAllK_eq] at h2
      exact ⟨_, _, h2, hs _ _ _ _ _ _ h1 _ _ m dst a1 a2 a3 ⟨aren_v _, aren_clos ⟨aren_ptr _ rfl, trivial⟩, trivial⟩⟩
    · cases h
  · cases h
theorem co_ContainsFuncN (N : Nat) (f : Int → Int → List V → Int → Int → Int → Int → Option (Bool)) (hf : ∀ (x0 : Int) (x1 : Int) (x2 : List V) (x3 : Int) (x4 : Int) (x5 : Int) (x6 : Int) (r0 : Bool), f x0 x1 x2 x3 x4 x5 x6 = some r0 → PureRet Tryd.prog T 44 [.agg [.v (.int .i64 x0) .no, .v (.int .i64 x1) .no, .v (.sl 24 x2) .no], .agg [.v (.int .i64 x3) .no, .v (.int .i64 x4) .no, .v (.int .i64 x5) .no, .v (.int .i64 x6) .no]] [.v (.bool r0) .no]) : CxOK Tryd.prog (cx_ContainsFuncN N f) :=
  cxOK_of2 (es := []) (me := [⟨90, e_IndexFuncN (s_IndexFuncN N f)⟩]) (ms := []) T_ok trivial ⟨eo_IndexFuncN _ (p_IndexFuncN N f hf), trivial⟩ trivial rfl (fun _ _ _ _ => rfl) (fun _ _ _ _ _ _ => rfl) rfl
theorem lo_ContainsFuncN (N : Nat) (f : Int → Int → List V → Int → Int → Int → Int → Option (Bool)) : LoopsOK (cx_ContainsFuncN N f) Tryd.f68.ntmps (bodyOf Tryd.f68) :=
  loopsOK_of (k := 0) (by kernel_rfl) trivial
open Classical in
theorem p_ContainsFuncN (N : Nat) (f : Int → Int → List V → Int → Int → Int → Int → Option (Bool)) (hf : ∀ (x0 : Int) (x1 : Int) (x2 : List V) (x3 : Int) (x4 : Int) (x5 : Int) (x6 : Int) (r0 : Bool), f x0 x1 x2 x3 x4 x5 x6 = some r0 → PureRet Tryd.prog T 44 [.agg [.v (.int .i64 x0) .no, .v (.int .i64 x1) .no, .v (.sl 24 x2) .no], .agg [.v (.int .i64 x3) .no, .v (.int .i64 x4) .no, .v (.int .i64 x5) .no, .v (.int .i64 x6) .no]] [.v (.bool r0) .no]) (x0 : List V) (y0 : Int) (y1 : Int) (y2 : Int) (y3 : Int) (r0 : Bool) (h : s_ContainsFuncN N f x0 y0 y1 y2 y3 = some r0) : ViewRet Tryd.prog T 68 [.v (.sl 24 x0) .no, .clos 70 [.ptr 1 0 0]] [⟨31, [.v (.int .i64 y0) .no, .v (.int .i64 y1) .no, .v (.int .i64 y2) .no, .v (.int .i64 y3) .no]⟩] [.v (.bool r0) .no] [⟨31, [.v (.int .i64 y0) .no, .v (.int .i64 y1) .no, .v (.int .i64 y2) .no, .v (.int .i64 y3) .no]⟩] := by
  refine view_of (Bs := [⟨31, [.v (.int .i64 y0) .no, .v (.int .i64 y1) .no, .v (.int .i64 y2) .no, .v (.int .i64 y3) .no]⟩]) (Bs' := [⟨31, [.v (.int .i64 y0) .no, .v (.int .i64 y1) .no, .v (.int .i64 y2) .no, .v (.int .i64 y3) .no]⟩]) (cx := cx_ContainsFuncN N f) (by kernel_rfl) (co_ContainsFuncN N f hf) Tryd.func68 (by kernel_rfl) (by kernel_rfl) (lo_ContainsFuncN N f) rfl rfl rfl rfl (rf := r_ContainsFuncN (fun r0' z'0 z'1 z'2 z'3 => if z'0 = y0 ∧ z'1 = y1 ∧ z'2 = y2 ∧ z'3 = y3 then some r0' else none)) (r := r0) ?_ ?_
  · exact (C_ContainsFuncN_ok N f x0 y0 y1 y2 y3 _).trans ((congrArg (fun K => C_ContainsFuncN N f x0 y0 y1 y2 y3 K) (funext fun r0' => if_pos ⟨rfl, rfl, rfl, rfl⟩)).trans h)
  · intro rs' m' hx
    unfold r_ContainsFuncN at hx
    split at hx
    · dsimp only at hx
      split at hx
      · rename_i hk
        obtain ⟨rfl, rfl, rfl, rfl⟩ := hk
        cases hx; exact ⟨rfl, rfl, _, rfl⟩
      · cases hx
    · cases hx
noncomputable def e_IndexFuncY {R : Type} (s : List V → Int → Int → Int → Int → Option (Int)) (dst : Nat) (ds : List D) (m : Mem) (K : List D → Mem → Option R) : Option R :=
  match ds with
  | [.v (.sl 24 x0) .no, .clos 71 [.ptr (kv0 + 1) sv0 0]] => viewK [(kv0, sv0)] m fun Bs => (match Bs with
    | [⟨31, [.v (.int .i64 y0) .no, .v (.int .i64 y1) .no, .v (.int .i64 y2) .no, .v (.int .i64 y3) .no]⟩] => bnd1 (s x0 y0 y1 y2 y3) fun r0 => putAllK [(kv0, sv0)] [⟨31, [.v (.int .i64 y0) .no, .v (.int .i64 y1) .no, .v (.int .i64 y2) .no, .v (.int .i64 y3) .no]⟩] m fun m' => K [.v (.int .i64 r0) .no] m'
    | _ => none)
  | _ => none
noncomputable def r_IndexFuncY {α : Type} (K : Int → Int → Int → Int → Int → Option α) (rs : List D) (m : Mem) : Option α :=
  match rs, m with
  | [.v (.int .i64 r0) _], [_, [(0, ⟨31, [.v (.int .i64 z0) .no, .v (.int .i64 z1) .no, .v (.int .i64 z2) .no, .v (.int .i64 z3) .no]⟩)]] => K r0 z0 z1 z2 z3
  | _, _ => none
noncomputable def F_IndexFuncY_2 {R : Type} (N : Nat) (f : Int → Int → List V → Int → Int → Int → Int → Option (Bool)) (vs0 : List V) (n1 : Int) (n3 : Int) (n4 : Int) (n5 : Int) (n6 : Int) (Lq : Int → Option R) (K0 : Int → Option R) (K1 : Option R) (n2 : Int) : Option R :=
  br (decide (n2 < n1))
  (br (decide (0 ≤ n2) && decide (n2 < (↑vs0.length : Int)))
    (at? vs0 n2.toNat fun x0 =>
      x0.unAgg fun l1 =>
        unCons l1 fun x2 l3 =>
          V.unInt IntKind.i64 x2 fun n4_1 =>
            unCons l3 fun x5 l6 => V.unInt IntKind.i64 x5 fun n7 => unCons l6 fun x8 l9 => V.unSl 24 x8 fun l10 => unNil l9 (bnd1 (s_satyes N f n4_1 n7 l10 n3 n4 n5 n6) fun b11 => br b11 (K0 n2) (Lq (IntKind.i64.wrap (n2 + 1)))))
    none)
  K1
noncomputable def S_IndexFuncY_2 {R : Type} (N : Nat) (f : Int → Int → List V → Int → Int → Int → Int → Option (Bool)) (vs0 : List V) (n1 : Int) (n3 : Int) (n4 : Int) (n5 : Int) (n6 : Int) : Nat → Int → (Int → Option R) → (Option R) → Option R
  | 0, _, _, _ => none
  | t + 1, n2, K0, K1 => F_IndexFuncY_2 N f vs0 n1 n3 n4 n5 n6 (fun n2 => S_IndexFuncY_2 N f vs0 n1 n3 n4 n5 n6 t n2 K0 K1) K0 K1 n2
noncomputable def l_IndexFuncY_2 {R : Type} (N : Nat) (f : Int → Int → List V → Int → Int → Int → Int → Option (Bool)) (ds : List D) (m : Mem) (K : Ex → List D → Mem → Option R) : Option R :=
  match ds, m with
  | [(.v (.sl 24 vs0) .no), (.clos 71 [(.ptr 1 0 0)]), (.v (.int .i64 n1) .no), (.v (.int .i64 n2) .no)], [[], [(0, ⟨31, [(.v (.int .i64 n3) .no), (.v (.int .i64 n4) .no), (.v (.int .i64 n5) .no), (.v (.int .i64 n6) .no)]⟩)]] => S_IndexFuncY_2 N f vs0 n1 n3 n4 n5 n6 N n2 (fun a0 => K .ret [(.v (.int .i64 a0) .no)] [[], [(0, ⟨31, [(.v (.int .i64 n3) .no), (.v (.int .i64 n4) .no), (.v (.int .i64 n5) .no), (.v (.int .i64 n6) .no)]⟩)]]) (K (.exit 0) [.any] [[], [(0, ⟨31, [(.v (.int .i64 n3) .no), (.v (.int .i64 n4) .no), (.v (.int .i64 n5) .no), (.v (.int .i64 n6) .no)]⟩)]])
  | _, _ => none
noncomputable def C_IndexFuncY {R : Type} (N : Nat) (f : Int → Int → List V → Int → Int → Int → Int → Option (Bool)) (x0 : List V) (y0 : Int) (y1 : Int) (y2 : Int) (y3 : Int) (K0 : Int → Option R) : Option R :=
  S_IndexFuncY_2 N f x0 (↑x0.length : Int) y0 y1 y2 y3 N 0 (fun n0 => K0 n0) (K0 (-1))
noncomputable def s_IndexFuncY (N : Nat) (f : Int → Int → List V → Int → Int → Int → Int → Option (Bool)) (x0 : List V) (y0 : Int) (y1 : Int) (y2 : Int) (y3 : Int) : Option (Int) :=
  C_IndexFuncY N f x0 y0 y1 y2 y3 (fun r0 => some r0)
noncomputable def cx_IndexFuncY (N : Nat) (f : Int → Int → List V → Int → Int → Int → Int → Option (Bool)) : Cx := { T := T, isPure := tabP [], pureK := fun g ds K => tabK [] g ds K, memK := fun g dst ds m K => tabMK [⟨71, e_satyes (s_satyes N f)⟩] g dst ds m K, meth := tabM [], keep := fun r => match r with | 2 => [0, 1, 7, 8] | _ => [], keepX := fun r => match r with | 2 => [4] | _ => [], loopT := fun r ds m K => match r with | 2 => l_IndexFuncY_2 N f ds m K | _ => none, jumps := 9 }
theorem F_IndexFuncY_2_ok {R : Type} (N : Nat) (f : Int → Int → List V → Int → Int → Int → Int → Option (Bool)) (vs0 : List V) (n1 : Int) (n3 : Int) (n4 : Int) (n5 : Int) (n6 : Int) (n2 : Int) (L : List D → Mem → Option R) (K : Ex → List D → Mem → Option R) :
    roundK (fun st K => codeK (cx_IndexFuncY N f) (loopN Tryd.f90 0) st K) 19 [0, 1, 7, 8] [4] L [(.v (.sl 24 vs0) .no), (.clos 71 [(.ptr 1 0 0)]), (.v (.int .i64 n1) .no), (.v (.int .i64 n2) .no)] [[], [(0, ⟨31, [(.v (.int .i64 n3) .no), (.v (.int .i64 n4) .no), (.v (.int .i64 n5) .no), (.v (.int .i64 n6) .no)]⟩)]] K = F_IndexFuncY_2 N f vs0 n1 n3 n4 n5 n6 (fun n2 => L [(.v (.sl 24 vs0) .no), (.clos 71 [(.ptr 1 0 0)]), (.v (.int .i64 n1) .no), (.v (.int .i64 n2) .no)] [[], [(0, ⟨31, [(.v (.int .i64 n3) .no), (.v (.int .i64 n4) .no), (.v (.int .i64 n5) .no), (.v (.int .i64 n6) .no)]⟩)]]) (fun a0 => K .ret [(.v (.int .i64 a0) .no)] [[], [(0, ⟨31, [(.v (.int .i64 n3) .no), (.v (.int .i64 n4) .no), (.v (.int .i64 n5) .no), (.v (.int .i64 n6) .no)]⟩)]]) (K (.exit 0) [.any] [[], [(0, ⟨31, [(.v (.int .i64 n3) .no), (.v (.int .i64 n4) .no), (.v (.int .i64 n5) .no), (.v (.int .i64 n6) .no)]⟩)]]) n2 := by
  kernel_rfl
theorem S_IndexFuncY_2_ok {R : Type} (N : Nat) (f : Int → Int → List V → Int → Int → Int → Int → Option (Bool)) (vs0 : List V) (n1 : Int) (n3 : Int) (n4 : Int) (n5 : Int) (n6 : Int) (K : Ex → List D → Mem → Option R) : ∀ (t : Nat) (n2 : Int),
    loopK (fun st K => codeK (cx_IndexFuncY N f) (loopN Tryd.f90 0) st K) 19 [0, 1, 7, 8] [4] t [(.v (.sl 24 vs0) .no), (.clos 71 [(.ptr 1 0 0)]), (.v (.int .i64 n1) .no), (.v (.int .i64 n2) .no)] [[], [(0, ⟨31, [(.v (.int .i64 n3) .no), (.v (.int .i64 n4) .no), (.v (.int .i64 n5) .no), (.v (.int .i64 n6) .no)]⟩)]] K = S_IndexFuncY_2 N f vs0 n1 n3 n4 n5 n6 t n2 (fun a0 => K .ret [(.v (.int .i64 a0) .no)] [[], [(0, ⟨31, [(.v (.int .i64 n3) .no), (.v (.int .i64 n4) .no), (.v (.int .i64 n5) .no), (.v (.int .i64 n6) .no)]⟩)]]) (K (.exit 0) [.any] [[], [(0, ⟨31, [(.v (.int .i64 n3) .no), (.v (.int .i64 n4) .no), (.v (.int .i64 n5) .no), (.v (.int .i64 n6) .no)]⟩)]])
  | 0, n2 => rfl
  | t + 1, n2 => (F_IndexFuncY_2_ok N f vs0 n1 n3 n4 n5 n6 n2 _ K).trans (congrArg (fun L => F_IndexFuncY_2 N f vs0 n1 n3 n4 n5 n6 L (fun a0 => K .ret [(.v (.int .i64 a0) .no)] [[], [(0, ⟨31, [(.v (.int .i64 n3) .no), (.v (.int .i64 n4) .no), (.v (.int .i64 n5) .no), (.v (.int .i64 n6) .no)]⟩)]]) (K (.exit 0) [.any] [[], [(0, ⟨31, [(.v (.int .i64 n3) .no), (.v (.int .i64 n4) .no), (.v (.int .i64 n5) .no), (.v (.int .i64 n6) .no)]⟩)]]) n2) (funext fun n2 => S_IndexFuncY_2_ok N f vs0 n1 n3 n4 n5 n6 K t n2))
theorem C_IndexFuncY_ok {R : Type} (N : Nat) (f : Int → Int → List V → Int → Int → Int → Int → Option (Bool)) (x0 : List V) (y0 : Int) (y1 : Int) (y2 : Int) (y3 : Int) (K : Int → Int → Int → Int → Int → Option R) : bodyK (cx_IndexFuncY N f) Tryd.f90 [.v (.sl 24 x0) .no, .clos 71 [.ptr 1 0 0]] [frOf 0 [⟨31, [.v (.int .i64 y0) .no, .v (.int .i64 y1) .no, .v (.int .i64 y2) .no, .v (.int .i64 y3) .no]⟩]] (r_IndexFuncY K) = C_IndexFuncY N f x0 y0 y1 y2 y3 (fun r0 => K r0 y0 y1 y2 y3) := by
  kernel_rfl
theorem go_IndexFuncY : Goes Tryd.prog 90 := goes_of Tryd.func90 (by kernel_rfl) (c := bodyOf Tryd.f90) (by kernel_rfl)
theorem eo_IndexFuncY (s : List V → Int → Int → Int → Int → Option (Int)) (hs : ∀ (x0 : List V) (y0 : Int) (y1 : Int) (y2 : Int) (y3 : Int) (r0 : Int), s x0 y0 y1 y2 y3 = some r0 → ViewRet Tryd.prog T 90 [.v (.sl 24 x0) .no, .clos 71 [.ptr 1 0 0]] [⟨31, [.v (.int .i64 y0) .no, .v (.int .i64 y1) .no, .v (.int .i64 y2) .no, .v (.int .i64 y3) .no]⟩] [.v (.int .i64 r0) .no] [⟨31, [.v (.int .i64 y0) .no, .v (.int .i64 y1) .no, .v (.int .i64 y2) .no, .v (.int .i64 y3) .no]⟩]) : MEntOK Tryd.prog T ⟨90, e_IndexFuncY s⟩ := by
  refine ⟨go_IndexFuncY, fun R dst ds m K r h => ?_⟩
  simp only [e_IndexFuncY] at h
  split at h
  · obtain ⟨Bs, a1, a2, a3, h⟩ := viewK_some h
    split at h
    · obtain ⟨r0, h1, h2⟩ := bnd1_some h
      rw [putAllK_eq] at h2
      exact ⟨_, _, h2, hs _ _ _ _ _ _ h1 _ _ m dst a1 a2 a3 ⟨aren_v _, aren_clos ⟨aren_ptr _ rfl, trivial⟩, trivial⟩⟩
    · cases h
  · cases h
theorem co_IndexFuncY (N : Nat) (f : Int → Int → List V → Int → Int → Int → Int → Option (Bool)) (hf : ∀ (x0 : Int) (x1 : Int) (x2 : List V) (x3 : Int) (x4 : Int) (x5 : Int) (x6 : Int) (r0 : Bool), f x0 x1 x2 x3 x4 x5 x6 = some r0 → PureRet Tryd.prog T 44 [.agg [.v (.int .i64 x0) .no, .v (.int .i64 x1) .no, .v (.sl 24 x2) .no], .agg [.v (.int .i64 x3) .no, .v (.int .i64 x4) .no, .v (.int .i64 x5) .no, .v (.int .i64 x6) .no]] [.v (.bool r0) .no]) : CxOK Tryd.prog (cx_IndexFuncY N f) :=
  cxOK_of2 (es := []) (me := [⟨71, e_satyes (s_satyes N f)⟩]) (ms := []) T_ok trivial ⟨eo_satyes _ (p_satyes N f hf), trivial⟩ trivial rfl (fun _ _ _ _ => rfl) (fun _ _ _ _ _ _ => rfl) rfl
theorem lk_IndexFuncY_2 (N : Nat) (f : Int → Int → List V → Int → Int → Int → Int → Option (Bool)) : LoopOK (cx_IndexFuncY N f) 19 (loopN Tryd.f90 0) := by
  refine loopOK_of (rid := 2) (by kernel_rfl) rfl rfl fun R ds m K r h => ?_
  have h : l_IndexFuncY_2 N f ds m K = some r := h
  unfold l_IndexFuncY_2 at h
  split at h
  · exact ⟨N, Eq.trans (S_IndexFuncY_2_ok ..) h⟩
  · cases h
theorem lo_IndexFuncY (N : Nat) (f : Int → Int → List V → Int → Int → Int → Int → Option (Bool)) : LoopsOK (cx_IndexFuncY N f) Tryd.f90.ntmps (bodyOf Tryd.f90) :=
  loopsOK_of (k := 1) (by kernel_rfl) ⟨trivial, lk_IndexFuncY_2 N f⟩
open Classical in
theorem p_IndexFuncY (N : Nat) (f : Int → Int → List V → Int → Int → Int → Int → Option (Bool)) (hf : ∀ (x0 : Int) (x1 : Int) (x2 : List V) (x3 : Int) (x4 : Int) (x5 : Int) (x6 : Int) (r0 : Bool), f x0 x1 x2 x3 x4 x5 x6 = some r0 → PureRet Tryd.prog T 44 [.agg [.v (.int .i64 x0) .no, .v (.int .i64 x1) .no, .v (.sl 24 x2) .no], .agg [.v (.int .i64 x3) .no, .v (.int .i64 x4) .no, .v (.int .i64 x5) .no, .v (.int .i64 x6) .no]] [.v (.bool r0) .no]) (x0 : List V) (y0 : Int) (y1 : Int) (y2 : Int) (y3 : Int) (r0 : Int) (h : s_IndexFuncY N f x0 y0 y1 y2 y3 = some r0) : ViewRet Tryd.prog T 90 [.v (.sl 24 x0) .no, .clos 71 [.ptr 1 0 0]] [⟨31, [.v (.int .i64 y0) .no, .v (.int .i64 y1) .no, .v (.int .i64 y2) .no, .v (.int .i64 y3) .no]⟩] [.v (.int .i64 r0) .no] [⟨31, [.v (.int .i64 y0) .no, .v (.int .i64 y1) .no, .v (.int .i64 y2) .no, .v (.int .i64 y3) .no]⟩] := by
  refine view_of (Bs := [⟨31, [.v (.int .i64 y0) .no, .v (.int .i64 y1) .no, .v (.int .i64 y2) .no, .v (.int .i64 y3) .no]⟩]) (Bs' := [⟨31, [.v (.int .i64 y0) .no, .v (.int .i64 y1) .no, .v (.int .i64 y2) .no, .v (.int .i64 y3) .no]⟩]) (cx := cx_IndexFuncY N f) (by kernel_rfl) (co_IndexFuncY N f hf) Tryd.func90 (by kernel_rfl) (by kernel_rfl) (lo_IndexFuncY N f) rfl rfl rfl rfl (rf := r_IndexFuncY (fun r0' z'0 z'1 z'2 z'3 => if z'0 = y0 ∧ z'1 = y1 ∧ z'2 = y2 ∧ z'3 = y3 then some r0' else none)) (r := r0) ?_ ?_
  · exact (C_IndexFuncY_ok N f x0 y0 y1 y2 y3 _).trans ((congrArg (fun K => C_IndexFuncY N f x0 y0 y1 y2 y3 K) (funext fun r0' => if_pos ⟨rfl, rfl, rfl, rfl⟩)).trans h)
  · intro rs' m' hx
    unfold r_IndexFuncY at hx
    split at hx
    · dsimp only at hx
      split at hx
      · rename_i hk
        obtain ⟨rfl, rfl, rfl, rfl⟩ := hk
        cases hx; exact ⟨rfl, rfl, _, rfl⟩
      · cases hx
    · cases hx
noncomputable def e_ContainsFuncY {R : Type} (s : List V → Int → Int → Int → Int → Option (Bool)) (dst : Nat) (ds : List D) (m : Mem) (K : List D → Mem → Option R) : Option R :=
  match ds with
  | [.v (.sl 24 x0) .no, .clos 71 [.ptr (kv0 + 1) sv0 0]] => viewK [(kv0, sv0)] m fun Bs => (match Bs with
    | [⟨31, [.v (.int .i64 y0) .no, .v (.int .i64 y1) .no, .v (.int .i64 y2) .no, .v (.int .i64 y3) .no]⟩] => bnd1 (s x0 y0 y1 y2 y3) fun r0 => putAllK [(kv0, sv0)] [⟨31, [.v (.int .i64 y0) .no, .v (.int .i64 y1) .no, .v (.int .i64 y2) .no, .v (.int .i64 y3) .no]⟩] m fun m' => K [.v (.bool r0) .no] m'
    | _ => none)
  | _ => none
noncomputable def r_ContainsFuncY {α : Type} (K : Bool → Int → Int → Int → Int → Option α) (rs : List D) (m : Mem) : Option α :=
  match rs, m with
  | [.v (.bool r0) _], [_, [(0, ⟨31, [.v (.int .i64 z0) .no, .v (.int .i64 z1) .no, .v (.int .i64 z2) .no, .v (.int .i64 z3) .no]⟩)]] => K r0 z0 z1 z2 z3
  | _, _ => none
noncomputable def C_ContainsFuncY {R : Type} (N : Nat) (f : Int → Int → List V → Int → Int → Int → Int → Option (Bool)) (x0 : List V) (y0 : Int) (y1 : Int) (y2 : Int) (y3 : Int) (K0 : Bool → Option R) : Option R :=
  bnd1 (s_IndexFuncY N f x0 y0 y1 y2 y3) fun n0 => K0 (decide (0 ≤ n0))
noncomputable def s_ContainsFuncY (N : Nat) (f : Int → Int → List V → Int → Int → Int → Int → Option (Bool)) (x0 : List V) (y0 : Int) (y1 : Int) (y2 : Int) (y3 : Int) : Option (Bool) :=
  C_ContainsFuncY N f x0 y0 y1 y2 y3 (fun r0 => some r0)
noncomputable def cx_ContainsFuncY (N : Nat) (f : Int → Int → List V → Int → Int → Int → Int → Option (Bool)) : Cx := { T := T, isPure := tabP [], pureK := fun g ds K => tabK [] g ds K, memK := fun g dst ds m K => tabMK [⟨90, e_IndexFuncY (s_IndexFuncY N f)⟩] g dst ds m K, meth := tabM [], keep := fun _ => [], keepX := fun _ => [], loopT := fun _ _ _ _ => none, jumps := 9 }
theorem C_ContainsFuncY_ok {R : Type} (N : Nat) (f : Int → Int → List V → Int → Int → Int → Int → Option (Bool)) (x0 : List V) (y0 : Int) (y1 : Int) (y2 : Int) (y3 : Int) (K : Bool → Int → Int → Int → Int → Option R) : bodyK (cx_ContainsFuncY N f) Tryd.f68 [.v (.sl 24 x0) .no, .clos 71 [.ptr 1 0 0]] [frOf 0 [⟨31, [.v (.int .i64 y0) .no, .v (.int .i64 y1) .no, .v (.int .i64 y2) .no, .v (.int .i64 y3) .no]⟩]] (r_ContainsFuncY K) = C_ContainsFuncY N f x0 y0 y1 y2 y3 (fun r0 => K r0 y0 y1 y2 y3) := by
  kernel_rfl
theorem go_ContainsFuncY : Goes Tryd.prog 68 := goes_of Tryd.func68 (by kernel_rfl) (c := bodyOf Tryd.f68) (by kernel_rfl)
theorem eo_ContainsFuncY (s : List V → Int → Int → Int → Int → Option (Bool)) (hs : ∀ (x0 : List V) (y0 : Int) (y1 : Int) (y2 : Int) (y3 : Int) (r0 : Bool), s x0 y0 y1 y2 y3 = some r0 → ViewRet Tryd.prog T 68 [.v (.sl 24 x0) .no, .clos 71 [.ptr 1 0 0]] [⟨31, [.v (.int .i64 y0) .no, .v (.int .i64 y1) .no, .v (.int .i64 y2) .no, .v (.int .i64 y3) .no]⟩] [.v (.bool r0) .no] [⟨31, [.v (.int .i64 y0) .no, .v (.int .i64 y1) .no, .v (.int .i64 y2) .no, .v (.int .i64 y3) .no]⟩]) : MEntOK Tryd.prog T ⟨68, e_ContainsFuncY s⟩ := by
  refine ⟨go_ContainsFuncY, fun R dst ds m K r h => ?_⟩
  simp only [e_ContainsFuncY] at h
  split at h
  · obtain ⟨Bs, a1, a2, a3, h⟩ := viewK_some h
    split at h
    · obtain ⟨r0, h1, h2⟩ := bnd1_some h
      rw [putAllK_eq] at h2
      exact ⟨_, _, h2, hs _ _ _ _ _ _ h1 _ _ m dst a1 a2 a3 ⟨aren_v _, aren_clos ⟨aren_ptr _ rfl, trivial⟩, trivial⟩⟩
    · cases h
  · cases h
theorem co_ContainsFuncY (N : Nat) (f : Int → Int → List V → Int → Int → Int → Int → Option (Bool)) (hf : ∀ (x0 : Int) (x1 : Int) (x2 : List V) (x3 : Int) (x4 : Int) (x5 : Int) (x6 : Int) (r0 : Bool), f x0 x1 x2 x3 x4 x5 x6 = some r0 → PureRet Tryd.prog T 44 [.agg [.v (.int .i64 x0) .no, .v (.int .i64 x1) .no, .v (.sl 24 x2) .no], .agg [.v (.int .i64 x3) .no, .v (.int .i64 x4) .no, .v (.int .i64 x5) .no, .v (.int .i64 x6) .no]] [.v (.bool r0) .no]) : CxOK Tryd.prog (cx_ContainsFuncY N f) :=
  cxOK_of2 (es := []) (me := [⟨90, e_IndexFuncY (s_IndexFuncY N f)⟩]) (ms := []) T_ok trivial ⟨eo_IndexFuncY _ (p_IndexFuncY N f hf), trivial⟩ trivial rfl (fun _ _ _ _ => rfl) (fun _ _ _ _ _ _ => rfl) rfl
theorem lo_ContainsFuncY (N : Nat) (f : Int → Int → List V → Int → Int → Int → Int → Option (Bool)) : LoopsOK (cx_ContainsFuncY N f) Tryd.f68.ntmps (bodyOf Tryd.f68) :=
  loopsOK_of (k := 0) (by kernel_rfl) trivial
open Classical in
theorem p_ContainsFuncY (N : Nat) (f : Int → Int → List V → Int → Int → Int → Int → Option (Bool)) (hf : ∀ (x0 : Int) (x1 : Int) (x2 : List V) (x3 : Int) (x4 : Int) (x5 : Int) (x6 : Int) (r0 : Bool), f x0 x1 x2 x3 x4 x5 x6 = some r0 → PureRet Tryd.prog T 44 [.agg [.v (.int .i64 x0) .no, .v (.int .i64 x1) .no, .v (.sl 24 x2) .no], .agg [.v (.int .i64 x3) .no, .v (.int .i64 x4) .no, .v (.int .i64 x5) .no, .v (.int .i64 x6) .no]] [.v (.bool r0) .no]) (x0 : List V) (y0 : Int) (y1 : Int) (y2 : Int) (y3 : Int) (r0 : Bool) (h : s_ContainsFuncY N f x0 y0 y1 y2 y3 = some r0) : ViewRet Tryd.prog T 68 [.v (.sl 24 x0) .no, .clos 71 [.ptr 1 0 0]] [⟨31, [.v (.int .i64 y0) .no, .v (.int .i64 y1) .no, .v (.int .i64 y2) .no, .v (.int .i64 y3) .no]⟩] [.v (.bool r0) .no] [⟨31, [.v (.int .i64 y0) .no, .v (.int .i64 y1) .no, .v (.int .i64 y2) .no, .v (.int .i64 y3) .no]⟩] := by
  refine view_of (Bs := [⟨31, [.v (.int .i64 y0) .no, .v (.int .i64 y1) .no, .v (.int .i64 y2) .no, .v (.int .i64 y3) .no]⟩]) (Bs' := [⟨31, [.v (.int .i64 y0) .no, .v (.int .i64 y1) .no, .v (.int .i64 y2) .no, .v (.int .i64 y3) .no]⟩]) (cx := cx_ContainsFuncY N f) (by kernel_rfl) (co_ContainsFuncY N f hf) Tryd.func68 (by kernel_rfl) (by kernel_rfl) (lo_ContainsFuncY N f) rfl rfl rfl rfl (rf := r_ContainsFuncY (fun r0' z'0 z'1 z'2 z'3 => if z'0 = y0 ∧ z'1 = y1 ∧ z'2 = y2 ∧ z'3 = y3 then some r0' else none)) (r := r0) ?_ ?_
  · exact (C_ContainsFuncY_ok N f x0 y0 y1 y2 y3 _).trans ((congrArg (fun K => C_ContainsFuncY N f x0 y0 y1 y2 y3 K) (funext fun r0' => if_pos ⟨rfl, rfl, rfl, rfl⟩)).trans h)
  · intro rs' m' hx
    unfold r_ContainsFuncY at hx
    split at hx
    · dsimp only at hx
      split at hx
      · rename_i hk
        obtain ⟨rfl, rfl, rfl, rfl⟩ := hk
        cases hx; exact ⟨rfl, rfl, _, rfl⟩
      · cases hx
    · cases hx
noncomputable def r_asat (rs : List D) (_ : Mem) : Option (Bool) :=
  match rs with
  | [.v (.bool r0) _] => some (r0)
  | _ => none
noncomputable def B_asat (N : Nat) (f : Int → Int → List V → Int → Int → Int → Int → Option (Bool)) (x0 : Int) (x1 : Int) (x2 : List V) (x3 : Int) (x4 : Int) (x5 : Int) (x6 : Int) : Option (Bool) :=
  br (decide (x0 = 6)) (bnd1 (s_ContainsFuncN N f x2 x3 x4 x5 x6) fun b0 => some !b0)
  (br (decide (x0 = 7)) (bnd1 (s_ContainsFuncY N f x2 x3 x4 x5 x6) fun b1 => some b1)
    (br (decide (x0 = 2)) (br (decide (0 ≤ x1)) (some (decide (bitsI BinOp.and IntKind.i64 (shrI IntKind.i64 x3 x1) 1 = 1))) none)
      (br (decide (x0 = 3)) (br (decide (0 ≤ x1)) (some (decide (bitsI BinOp.and IntKind.i64 (shrI IntKind.i64 x4 x1) 1 = 1))) none)
        (br (decide (x0 = 4)) (some (decide (x1 ≤ x5))) (br (decide (x0 = 5)) (some (decide (bitsI BinOp.and IntKind.i64 x6 x1 = x1))) (some (decide (x0 = 1))))))))
noncomputable def s_asat (N : Nat) : Nat → Int → Int → List V → Int → Int → Int → Int → Option (Bool)
  | 0, _, _, _, _, _, _, _ => none
  | n + 1, x0, x1, x2, x3, x4, x5, x6 => B_asat N (s_asat N n) x0 x1 x2 x3 x4 x5 x6
noncomputable def cx_asat (N : Nat) (f : Int → Int → List V → Int → Int → Int → Int → Option (Bool)) : Cx := { T := T, isPure := tabP [⟨44, e_asat f⟩], pureK := fun g ds K => tabK [⟨44, e_asat f⟩] g ds K, memK := fun g dst ds m K => tabMK [(selM 70 ⟨68, e_ContainsFuncN (s_ContainsFuncN N f)⟩ ⟨68, e_ContainsFuncY (s_ContainsFuncY N f)⟩), ⟨70, e_satno (s_satno N f)⟩, ⟨71, e_satyes (s_satyes N f)⟩] g dst ds m K, meth := tabM [], keep := fun _ => [], keepX := fun _ => [], loopT := fun _ _ _ _ => none, jumps := 9 }
theorem B_asat_ok (N : Nat) (f : Int → Int → List V → Int → Int → Int → Int → Option (Bool)) (x0 : Int) (x1 : Int) (x2 : List V) (x3 : Int) (x4 : Int) (x5 : Int) (x6 : Int) : bodyK (cx_asat N f) Tryd.f44 [.agg [.v (.int .i64 x0) .no, .v (.int .i64 x1) .no, .v (.sl 24 x2) .no], .agg [.v (.int .i64 x3) .no, .v (.int .i64 x4) .no, .v (.int .i64 x5) .no, .v (.int .i64 x6) .no]] [] r_asat = B_asat N f x0 x1 x2 x3 x4 x5 x6 := by
  kernel_rfl
theorem co_asat (N : Nat) (f : Int → Int → List V → Int → Int → Int → Int → Option (Bool)) (hf : ∀ (x0 : Int) (x1 : Int) (x2 : List V) (x3 : Int) (x4 : Int) (x5 : Int) (x6 : Int) (r0 : Bool), f x0 x1 x2 x3 x4 x5 x6 = some r0 → PureRet Tryd.prog T 44 [.agg [.v (.int .i64 x0) .no, .v (.int .i64 x1) .no, .v (.sl 24 x2) .no], .agg [.v (.int .i64 x3) .no, .v (.int .i64 x4) .no, .v (.int .i64 x5) .no, .v (.int .i64 x6) .no]] [.v (.bool r0) .no]) : CxOK Tryd.prog (cx_asat N f) :=
  cxOK_of2 (es := [⟨44, e_asat f⟩]) (me := [(selM 70 ⟨68, e_ContainsFuncN (s_ContainsFuncN N f)⟩ ⟨68, e_ContainsFuncY (s_ContainsFuncY N f)⟩), ⟨70, e_satno (s_satno N f)⟩, ⟨71, e_satyes (s_satyes N f)⟩]) (ms := []) T_ok ⟨eo_asat f hf, trivial⟩ ⟨selM_ok rfl (eo_ContainsFuncN _ (p_ContainsFuncN N f hf)) (eo_ContainsFuncY _ (p_ContainsFuncY N f hf)), eo_satno _ (p_satno N f hf), eo_satyes _ (p_satyes N f hf), trivial⟩ trivial rfl (fun _ _ _ _ => rfl) (fun _ _ _ _ _ _ => rfl) rfl
theorem lo_asat (N : Nat) (f : Int → Int → List V → Int → Int → Int → Int → Option (Bool)) : LoopsOK (cx_asat N f) Tryd.f44.ntmps (bodyOf Tryd.f44) :=
  loopsOK_of (k := 0) (by kernel_rfl) trivial
theorem p_asat (N : Nat) : ∀ (M : Nat) (x0 : Int) (x1 : Int) (x2 : List V) (x3 : Int) (x4 : Int) (x5 : Int) (x6 : Int) (r0 : Bool), s_asat N M x0 x1 x2 x3 x4 x5 x6 = some r0 → PureRet Tryd.prog T 44 [.agg [.v (.int .i64 x0) .no, .v (.int .i64 x1) .no, .v (.sl 24 x2) .no], .agg [.v (.int .i64 x3) .no, .v (.int .i64 x4) .no, .v (.int .i64 x5) .no, .v (.int .i64 x6) .no]] [.v (.bool r0) .no]
  | 0, _, _, _, _, _, _, _, _, h => by cases h
  | M + 1, x0, x1, x2, x3, x4, x5, x6, r0, h => pure_of (cx := cx_asat N (s_asat N M)) (by kernel_rfl) (co_asat N (s_asat N M) (p_asat N M)) Tryd.func44 (by kernel_rfl) (by kernel_rfl) (lo_asat N (s_asat N M)) rfl rfl rfl (rf := r_asat) ((B_asat_ok N (s_asat N M) x0 x1 x2 x3 x4 x5 x6).trans h) (fun rs' m h => by
    unfold r_asat at h
    split at h
    · cases h; exact ⟨rfl, rfl⟩
    · cases h)
noncomputable def e_aHolds {R : Type} (s : Int → Int → List V → Int → Int → Int → Int → Option (Bool)) (ds : List D) (K : List D → Option R) : Option R :=
  match ds with
  | [.agg [.v (.int .i64 x0) .no, .v (.int .i64 x1) .no, .v (.sl 24 x2) .no], .agg [.v (.int .i64 x3) .no, .v (.int .i64 x4) .no, .v (.int .i64 x5) .no, .v (.int .i64 x6) .no]] => bnd1 (s x0 x1 x2 x3 x4 x5 x6) fun r0 => K [.v (.bool r0) .no]
  | _ => none
noncomputable def r_aHolds (rs : List D) (_ : Mem) : Option (Bool) :=
  match rs with
  | [.v (.bool r0) _] => some (r0)
  | _ => none
noncomputable def s_aHolds (N : Nat) (x0 : Int) (x1 : Int) (x2 : List V) (x3 : Int) (x4 : Int) (x5 : Int) (x6 : Int) : Option (Bool) :=
  bnd1 (s_aCheck N x0 x1 x2) fun n0 => br (decide (n0 = 0)) (bnd1 (s_asat N N x0 x1 x2 x3 x4 x5 x6) fun b1 => some b1) (some false)
noncomputable def cx_aHolds (N : Nat) : Cx := { T := T, isPure := tabP [⟨17, e_aCheck (s_aCheck N)⟩, ⟨44, e_asat (s_asat N N)⟩], pureK := fun g ds K => tabK [⟨17, e_aCheck (s_aCheck N)⟩, ⟨44, e_asat (s_asat N N)⟩] g ds K, memK := fun g dst ds m K => tabMK [] g dst ds m K, meth := tabM [], keep := fun _ => [], keepX := fun _ => [], loopT := fun _ _ _ _ => none, jumps := 9 }
theorem s_aHolds_ok (N : Nat) (x0 : Int) (x1 : Int) (x2 : List V) (x3 : Int) (x4 : Int) (x5 : Int) (x6 : Int) : bodyK (cx_aHolds N) Tryd.f19 [.agg [.v (.int .i64 x0) .no, .v (.int .i64 x1) .no, .v (.sl 24 x2) .no], .agg [.v (.int .i64 x3) .no, .v (.int .i64 x4) .no, .v (.int .i64 x5) .no, .v (.int .i64 x6) .no]] [] r_aHolds = s_aHolds N x0 x1 x2 x3 x4 x5 x6 := by
  kernel_rfl
theorem go_aHolds : Goes Tryd.prog 19 := goes_of Tryd.func19 (by kernel_rfl) (c := bodyOf Tryd.f19) (by kernel_rfl)
theorem eo_aHolds (s : Int → Int → List V → Int → Int → Int → Int → Option (Bool)) (hs : ∀ (x0 : Int) (x1 : Int) (x2 : List V) (x3 : Int) (x4 : Int) (x5 : Int) (x6 : Int) (r0 : Bool), s x0 x1 x2 x3 x4 x5 x6 = some r0 → PureRet Tryd.prog T 19 [.agg [.v (.int .i64 x0) .no, .v (.int .i64 x1) .no, .v (.sl 24 x2) .no], .agg [.v (.int .i64 x3) .no, .v (.int .i64 x4) .no, .v (.int .i64 x5) .no, .v (.int .i64 x6) .no]] [.v (.bool r0) .no]) : EntOK Tryd.prog T ⟨19, e_aHolds s⟩ := by
  refine ⟨go_aHolds, fun R ds K r h => ?_, fun R ds K => ?_⟩
  · simp only [e_aHolds] at h
    split at h
    · obtain ⟨r0, h1, h2⟩ := bnd1_some h
      exact ⟨_, h2, hs _ _ _ _ _ _ _ _ h1⟩
    · cases h
  · simp only [e_aHolds]
    split
    · rw [bnd1_b]; rfl
    · rfl
theorem co_aHolds (N : Nat) : CxOK Tryd.prog (cx_aHolds N) :=
  cxOK_of2 (es := [⟨17, e_aCheck (s_aCheck N)⟩, ⟨44, e_asat (s_asat N N)⟩]) (me := []) (ms := []) T_ok ⟨eo_aCheck _ (p_aCheck N), eo_asat _ (p_asat N N), trivial⟩ trivial trivial rfl (fun _ _ _ _ => rfl) (fun _ _ _ _ _ _ => rfl) rfl
theorem lo_aHolds (N : Nat) : LoopsOK (cx_aHolds N) Tryd.f19.ntmps (bodyOf Tryd.f19) :=
  loopsOK_of (k := 0) (by kernel_rfl) trivial
theorem p_aHolds (N : Nat) (x0 : Int) (x1 : Int) (x2 : List V) (x3 : Int) (x4 : Int) (x5 : Int) (x6 : Int) (r0 : Bool) (h : s_aHolds N x0 x1 x2 x3 x4 x5 x6 = some r0) : PureRet Tryd.prog T 19 [.agg [.v (.int .i64 x0) .no, .v (.int .i64 x1) .no, .v (.sl 24 x2) .no], .agg [.v (.int .i64 x3) .no, .v (.int .i64 x4) .no, .v (.int .i64 x5) .no, .v (.int .i64 x6) .no]] [.v (.bool r0) .no] :=
  pure_of (cx := cx_aHolds N) (by kernel_rfl) (co_aHolds N) Tryd.func19 (by kernel_rfl) (by kernel_rfl) (lo_aHolds N) rfl rfl rfl (rf := r_aHolds) ((s_aHolds_ok N x0 x1 x2 x3 x4 x5 x6).trans h) (fun rs' m h => by
    unfold r_aHolds at h
    split at h
    · cases h; exact ⟨rfl, rfl⟩
    · cases h)
noncomputable def e_join {R : Type} (s : Int → Int → Int → Int → Int → Int → Int → Int → Option (Int × Int × Int × Int)) (ds : List D) (K : List D → Option R) : Option R :=
  match ds with
  | [.agg [.v (.int .i64 x0) .no, .v (.int .i64 x1) .no, .v (.int .i64 x2) .no, .v (.int .i64 x3) .no], .agg [.v (.int .i64 x4) .no, .v (.int .i64 x5) .no, .v (.int .i64 x6) .no, .v (.int .i64 x7) .no]] => bnd4 (s x0 x1 x2 x3 x4 x5 x6 x7) fun r0 r1 r2 r3 => K [.agg [.v (.int .i64 r0) .no, .v (.int .i64 r1) .no, .v (.int .i64 r2) .no, .v (.int .i64 r3) .no]]
  | _ => none
noncomputable def r_join (rs : List D) (_ : Mem) : Option (Int × Int × Int × Int) :=
  match rs with
  | [.agg [.v (.int .i64 r0) _, .v (.int .i64 r1) _, .v (.int .i64 r2) _, .v (.int .i64 r3) _]] => some (r0, r1, r2, r3)
  | _ => none
noncomputable def s_join (N : Nat) (x0 : Int) (x1 : Int) (x2 : Int) (x3 : Int) (x4 : Int) (x5 : Int) (x6 : Int) (x7 : Int) : Option (Int × Int × Int × Int) :=
  some
  (bitsI BinOp.or IntKind.i64 x0 x4, bitsI BinOp.or IntKind.i64 x1 x5,
    match true with
    | true => max x2 x6
    | false => min x2 x6,
    bitsI BinOp.or IntKind.i64 x3 x7)
noncomputable def cx_join (N : Nat) : Cx := { T := T, isPure := tabP [], pureK := fun g ds K => tabK [] g ds K, memK := fun g dst ds m K => tabMK [] g dst ds m K, meth := tabM [], keep := fun _ => [], keepX := fun _ => [], loopT := fun _ _ _ _ => none, jumps := 9 }
theorem s_join_ok (N : Nat) (x0 : Int) (x1 : Int) (x2 : Int) (x3 : Int) (x4 : Int) (x5 : Int) (x6 : Int) (x7 : Int) : bodyK (cx_join N) Tryd.f74 [.agg [.v (.int .i64 x0) .no, .v (.int .i64 x1) .no, .v (.int .i64 x2) .no, .v (.int .i64 x3) .no], .agg [.v (.int .i64 x4) .no, .v (.int .i64 x5) .no, .v (.int .i64 x6) .no, .v (.int .i64 x7) .no]] [] r_join = s_join N x0 x1 x2 x3 x4 x5 x6 x7 := by
  kernel_rfl
theorem go_join : Goes Tryd.prog 74 := goes_of Tryd.func74 (by kernel_rfl) (c := bodyOf Tryd.f74) (by kernel_rfl)
theorem eo_join (s : Int → Int → Int → Int → Int → Int → Int → Int → Option (Int × Int × Int × Int)) (hs : ∀ (x0 : Int) (x1 : Int) (x2 : Int) (x3 : Int) (x4 : Int) (x5 : Int) (x6 : Int) (x7 : Int) (r0 : Int) (r1 : Int) (r2 : Int) (r3 : Int), s x0 x1 x2 x3 x4 x5 x6 x7 = some (r0, r1, r2, r3) → PureRet Tryd.prog T 74 [.agg [.v (.int .i64 x0) .no, .v (.int .i64 x1) .no, .v (.int .i64 x2) .no, .v (.int .i64 x3) .no], .agg [.v (.int .i64 x4) .no, .v (.int .i64 x5) .no, .v (.int .i64 x6) .no, .v (.int .i64 x7) .no]] [.agg [.v (.int .i64 r0) .no, .v (.int .i64 r1) .no, .v (.int .i64 r2) .no, .v (.int .i64 r3) .no]]) : EntOK Tryd.prog T ⟨74, e_join s⟩ := by
  refine ⟨go_join, fun R ds K r h => ?_, fun R ds K => ?_⟩
  · simp only [e_join] at h
    split at h
    · obtain ⟨r0, r1, r2, r3, h1, h2⟩ := bnd4_some h
      exact ⟨_, h2, hs _ _ _ _ _ _ _ _ _ _ _ _ h1⟩
    · cases h
  · simp only [e_join]
    split
    · rw [bnd4_b]; rfl
    · rfl
theorem co_join (N : Nat) : CxOK Tryd.prog (cx_join N) :=
  cxOK_of2 (es := []) (me := []) (ms := []) T_ok trivial trivial trivial rfl (fun _ _ _ _ => rfl) (fun _ _ _ _ _ _ => rfl) rfl
theorem lo_join (N : Nat) : LoopsOK (cx_join N) Tryd.f74.ntmps (bodyOf Tryd.f74) :=
  loopsOK_of (k := 0) (by kernel_rfl) trivial
theorem p_join (N : Nat) (x0 : Int) (x1 : Int) (x2 : Int) (x3 : Int) (x4 : Int) (x5 : Int) (x6 : Int) (x7 : Int) (r0 : Int) (r1 : Int) (r2 : Int) (r3 : Int) (h : s_join N x0 x1 x2 x3 x4 x5 x6 x7 = some (r0, r1, r2, r3)) : PureRet Tryd.prog T 74 [.agg [.v (.int .i64 x0) .no, .v (.int .i64 x1) .no, .v (.int .i64 x2) .no, .v (.int .i64 x3) .no], .agg [.v (.int .i64 x4) .no, .v (.int .i64 x5) .no, .v (.int .i64 x6) .no, .v (.int .i64 x7) .no]] [.agg [.v (.int .i64 r0) .no, .v (.int .i64 r1) .no, .v (.int .i64 r2) .no, .v (.int .i64 r3) .no]] :=
  pure_of (cx := cx_join N) (by kernel_rfl) (co_join N) Tryd.func74 (by kernel_rfl) (by kernel_rfl) (lo_join N) rfl rfl rfl (rf := r_join) ((s_join_ok N x0 x1 x2 x3 x4 x5 x6 x7).trans h) (fun rs' m h => by
    unfold r_join at h
    split at h
    · cases h; exact ⟨rfl, rfl⟩
    · cases h)
noncomputable def e_IndexS {R : Type} (s : List V → Int → Int → Int → Int → Option (Int)) (ds : List D) (K : List D → Option R) : Option R :=
  match ds with
  | [.v (.sl 31 x0) .no, .agg [.v (.int .i64 x1) .no, .v (.int .i64 x2) .no, .v (.int .i64 x3) .no, .v (.int .i64 x4) .no]] => bnd1 (s x0 x1 x2 x3 x4) fun r0 => K [.v (.int .i64 r0) .no]
  | _ => none
noncomputable def r_IndexS (rs : List D) (_ : Mem) : Option (Int) :=
  match rs with
  | [.v (.int .i64 r0) _] => some (r0)
  | _ => none
noncomputable def F_IndexS_2 {R : Type} (N : Nat) (vs0 : List V) (n1 : Int) (n3 : Int) (n4 : Int) (n5 : Int) (n6 : Int) (Lq : Int → Option R) (K0 : Int → Option R) (K1 : Option R) (n2 : Int) : Option R :=
  br (decide (n2 < n1))
  (br (decide (0 ≤ n2) && decide (n2 < (↑vs0.length : Int)))
    (at? vs0 n2.toNat fun x0 =>
      x0.unAgg fun l1 =>
        unCons l1 fun x2 l3 =>
          V.unInt IntKind.i64 x2 fun n4_1 =>
            unCons l3 fun x5 l6 =>
              V.unInt IntKind.i64 x5 fun n7 =>
                unCons l6 fun x8 l9 =>
                  V.unInt IntKind.i64 x8 fun n10 =>
                    unCons l9 fun x11 l12 => V.unInt IntKind.i64 x11 fun n13 => unNil l12 (br (decide (n3 = n4_1) && (decide (n4 = n7) && (decide (n5 = n10) && (decide (n6 = n13) && true)))) (K0 n2) (Lq (IntKind.i64.wrap (n2 + 1)))))
    none)
  K1
noncomputable def S_IndexS_2 {R : Type} (N : Nat) (vs0 : List V) (n1 : Int) (n3 : Int) (n4 : Int) (n5 : Int) (n6 : Int) : Nat → Int → (Int → Option R) → (Option R) → Option R
  | 0, _, _, _ => none
  | t + 1, n2, K0, K1 => F_IndexS_2 N vs0 n1 n3 n4 n5 n6 (fun n2 => S_IndexS_2 N vs0 n1 n3 n4 n5 n6 t n2 K0 K1) K0 K1 n2
noncomputable def l_IndexS_2 {R : Type} (N : Nat) (ds : List D) (m : Mem) (K : Ex → List D → Mem → Option R) : Option R :=
  match ds, m with
  | [(.v (.sl 31 vs0) .no), (.ptr 0 3 0), (.v (.int .i64 n1) .no), (.v (.int .i64 n2) .no)], [[(3, ⟨31, [(.v (.int .i64 n3) .no), (.v (.int .i64 n4) .no), (.v (.int .i64 n5) .no), (.v (.int .i64 n6) .no)]⟩)]] => S_IndexS_2 N vs0 n1 n3 n4 n5 n6 N n2 (fun a0 => K .ret [(.ptr 0 3 0), (.v (.int .i64 a0) .no)] [[(3, ⟨31, [(.v (.int .i64 n3) .no), (.v (.int .i64 n4) .no), (.v (.int .i64 n5) .no), (.v (.int .i64 n6) .no)]⟩)]]) (K (.exit 0) [(.ptr 0 3 0), .any] [[(3, ⟨31, [(.v (.int .i64 n3) .no), (.v (.int .i64 n4) .no), (.v (.int .i64 n5) .no), (.v (.int .i64 n6) .no)]⟩)]])
  | _, _ => none
noncomputable def s_IndexS (N : Nat) (x0 : List V) (x1 : Int) (x2 : Int) (x3 : Int) (x4 : Int) : Option (Int) :=
  S_IndexS_2 N x0 (↑x0.length : Int) x1 x2 x3 x4 N 0 (fun n0 => some n0) (some (-1))
noncomputable def cx_IndexS (N : Nat) : Cx := { T := T, isPure := tabP [], pureK := fun g ds K => tabK [] g ds K, memK := fun g dst ds m K => tabMK [] g dst ds m K, meth := tabM [], keep := fun r => match r with | 2 => [0, 3, 7, 8] | _ => [], keepX := fun r => match r with | 2 => [3, 4] | _ => [], loopT := fun r ds m K => match r with | 2 => l_IndexS_2 N ds m K | _ => none, jumps := 9 }
theorem F_IndexS_2_ok {R : Type} (N : Nat) (vs0 : List V) (n1 : Int) (n3 : Int) (n4 : Int) (n5 : Int) (n6 : Int) (n2 : Int) (L : List D → Mem → Option R) (K : Ex → List D → Mem → Option R) :
    roundK (fun st K => codeK (cx_IndexS N) (loopN Tryd.f91 0) st K) 19 [0, 3, 7, 8] [3, 4] L [(.v (.sl 31 vs0) .no), (.ptr 0 3 0), (.v (.int .i64 n1) .no), (.v (.int .i64 n2) .no)] [[(3, ⟨31, [(.v (.int .i64 n3) .no), (.v (.int .i64 n4) .no), (.v (.int .i64 n5) .no), (.v (.int .i64 n6) .no)]⟩)]] K = F_IndexS_2 N vs0 n1 n3 n4 n5 n6 (fun n2 => L [(.v (.sl 31 vs0) .no), (.ptr 0 3 0), (.v (.int .i64 n1) .no), (.v (.int .i64 n2) .no)] [[(3, ⟨31, [(.v (.int .i64 n3) .no), (.v (.int .i64 n4) .no), (.v (.int .i64 n5) .no), (.v (.int .i64 n6) .no)]⟩)]]) (fun a0 => K .ret [(.ptr 0 3 0), (.v (.int .i64 a0) .no)] [[(3, ⟨31, [(.v (.int .i64 n3) .no), (.v (.int .i64 n4) .no), (.v (.int .i64 n5) .no), (.v (.int .i64 n6) .no)]⟩)]]) (K (.exit 0) [(.ptr 0 3 0), .any] [[(3, ⟨31, [(.v (.int .i64 n3) .no), (.v (.int .i64 n4) .no), (.v (.int .i64 n5) .no), (.v (.int .i64 n6) .no)]⟩)]]) n2 := by
  kernel_rfl
theorem S_IndexS_2_ok {R : Type} (N : Nat) (vs0 : List V) (n1 : Int) (n3 : Int) (n4 : Int) (n5 : Int) (n6 : Int) (K : Ex → List D → Mem → Option R) : ∀ (t : Nat) (n2 : Int),
    loopK (fun st K => codeK (cx_IndexS N) (loopN Tryd.f91 0) st K) 19 [0, 3, 7, 8] [3, 4] t [(.v (.sl 31 vs0) .no), (.ptr 0 3 0), (.v (.int .i64 n1) .no), (.v (.int .i64 n2) .no)] [[(3, ⟨31, [(.v (.int .i64 n3) .no), (.v (.int .i64 n4) .no), (.v (.int .i64 n5) .no), (.v (.int .i64 n6) .no)]⟩)]] K = S_IndexS_2 N vs0 n1 n3 n4 n5 n6 t n2 (fun a0 => K .ret [(.ptr 0 3 0), (.v (.int .i64 a0) .no)] [[(3, ⟨31, [(.v (.int .i64 n3) .no), (.v (.int .i64 n4) .no), (.v (.int .i64 n5) .no), (.v (.int .i64 n6) .no)]⟩)]]) (K (.exit 0) [(.ptr 0 3 0), .any] [[(3, ⟨31, [(.v (.int .i64 n3) .no), (.v (.int .i64 n4) .no), (.v (.int .i64 n5) .no), (.v (.int .i64 n6) .no)]⟩)]])
  | 0, n2 => rfl
  | t + 1, n2 => (F_IndexS_2_ok N vs0 n1 n3 n4 n5 n6 n2 _ K).trans (congrArg (fun L => F_IndexS_2 N vs0 n1 n3 n4 n5 n6 L (fun a0 => K .ret [(.ptr 0 3 0), (.v (.int .i64 a0) .no)] [[(3, ⟨31, [(.v (.int .i64 n3) .no), (.v (.int .i64 n4) .no), (.v (.int .i64 n5) .no), (.v (.int .i64 n6) .no)]⟩)]]) (K (.exit 0) [(.ptr 0 3 0), .any] [[(3, ⟨31, [(.v (.int .i64 n3) .no), (.v (.int .i64 n4) .no), (.v (.int .i64 n5) .no), (.v (.int .i64 n6) .no)]⟩)]]) n2) (funext fun n2 => S_IndexS_2_ok N vs0 n1 n3 n4 n5 n6 K t n2))
theorem s_IndexS_ok (N : Nat) (x0 : List V) (x1 : Int) (x2 : Int) (x3 : Int) (x4 : Int) : bodyK (cx_IndexS N) Tryd.f91 [.v (.sl 31 x0) .no, .agg [.v (.int .i64 x1) .no, .v (.int .i64 x2) .no, .v (.int .i64 x3) .no, .v (.int .i64 x4) .no]] [] r_IndexS = s_IndexS N x0 x1 x2 x3 x4 := by
  kernel_rfl
theorem go_IndexS : Goes Tryd.prog 91 := goes_of Tryd.func91 (by kernel_rfl) (c := bodyOf Tryd.f91) (by kernel_rfl)
theorem eo_IndexS (s : List V → Int → Int → Int → Int → Option (Int)) (hs : ∀ (x0 : List V) (x1 : Int) (x2 : Int) (x3 : Int) (x4 : Int) (r0 : Int), s x0 x1 x2 x3 x4 = some r0 → PureRet Tryd.prog T 91 [.v (.sl 31 x0) .no, .agg [.v (.int .i64 x1) .no, .v (.int .i64 x2) .no, .v (.int .i64 x3) .no, .v (.int .i64 x4) .no]] [.v (.int .i64 r0) .no]) : EntOK Tryd.prog T ⟨91, e_IndexS s⟩ := by
  refine ⟨go_IndexS, fun R ds K r h => ?_, fun R ds K => ?_⟩
  · simp only [e_IndexS] at h
    split at h
    · obtain ⟨r0, h1, h2⟩ := bnd1_some h
      exact ⟨_, h2, hs _ _ _ _ _ _ h1⟩
    · cases h
  · simp only [e_IndexS]
    split
    · rw [bnd1_b]; rfl
    · rfl
theorem co_IndexS (N : Nat) : CxOK Tryd.prog (cx_IndexS N) :=
  cxOK_of2 (es := []) (me := []) (ms := []) T_ok trivial trivial trivial rfl (fun _ _ _ _ => rfl) (fun _ _ _ _ _ _ => rfl) rfl
theorem lk_IndexS_2 (N : Nat) : LoopOK (cx_IndexS N) 19 (loopN Tryd.f91 0) := by
  refine loopOK_of (rid := 2) (by kernel_rfl) rfl rfl fun R ds m K r h => ?_
  have h : l_IndexS_2 N ds m K = some r := h
  unfold l_IndexS_2 at h
  split at h
  · exact ⟨N, Eq.trans (S_IndexS_2_ok ..) h⟩
  · cases h
theorem lo_IndexS (N : Nat) : LoopsOK (cx_IndexS N) Tryd.f91.ntmps (bodyOf Tryd.f91) :=
  loopsOK_of (k := 1) (by kernel_rfl) ⟨trivial, lk_IndexS_2 N⟩
theorem p_IndexS (N : Nat) (x0 : List V) (x1 : Int) (x2 : Int) (x3 : Int) (x4 : Int) (r0 : Int) (h : s_IndexS N x0 x1 x2 x3 x4 = some r0) : PureRet Tryd.prog T 91 [.v (.sl 31 x0) .no, .agg [.v (.int .i64 x1) .no, .v (.int .i64 x2) .no, .v (.int .i64 x3) .no, .v (.int .i64 x4) .no]] [.v (.int .i64 r0) .no] :=
  pure_of (cx := cx_IndexS N) (by kernel_rfl) (co_IndexS N) Tryd.func91 (by kernel_rfl) (by kernel_rfl) (lo_IndexS N) rfl rfl rfl (rf := r_IndexS) ((s_IndexS_ok N x0 x1 x2 x3 x4).trans h) (fun rs' m h => by
    unfold r_IndexS at h
    split at h
    · cases h; exact ⟨rfl, rfl⟩
    · cases h)
noncomputable def e_ContainsS {R : Type} (s : List V → Int → Int → Int → Int → Option (Bool)) (ds : List D) (K : List D → Option R) : Option R :=
  match ds with
  | [.v (.sl 31 x0) .no, .agg [.v (.int .i64 x1) .no, .v (.int .i64 x2) .no, .v (.int .i64 x3) .no, .v (.int .i64 x4) .no]] => bnd1 (s x0 x1 x2 x3 x4) fun r0 => K [.v (.bool r0) .no]
  | _ => none
noncomputable def r_ContainsS (rs : List D) (_ : Mem) : Option (Bool) :=
  match rs with
  | [.v (.bool r0) _] => some (r0)
  | _ => none
noncomputable def s_ContainsS (N : Nat) (x0 : List V) (x1 : Int) (x2 : Int) (x3 : Int) (x4 : Int) : Option (Bool) :=
  bnd1 (s_IndexS N x0 x1 x2 x3 x4) fun n0 => some (decide (0 ≤ n0))
noncomputable def cx_ContainsS (N : Nat) : Cx := { T := T, isPure := tabP [⟨91, e_IndexS (s_IndexS N)⟩], pureK := fun g ds K => tabK [⟨91, e_IndexS (s_IndexS N)⟩] g ds K, memK := fun g dst ds m K => tabMK [] g dst ds m K, meth := tabM [], keep := fun _ => [], keepX := fun _ => [], loopT := fun _ _ _ _ => none, jumps := 9 }
theorem s_ContainsS_ok (N : Nat) (x0 : List V) (x1 : Int) (x2 : Int) (x3 : Int) (x4 : Int) : bodyK (cx_ContainsS N) Tryd.f75 [.v (.sl 31 x0) .no, .agg [.v (.int .i64 x1) .no, .v (.int .i64 x2) .no, .v (.int .i64 x3) .no, .v (.int .i64 x4) .no]] [] r_ContainsS = s_ContainsS N x0 x1 x2 x3 x4 := by
  kernel_rfl
theorem go_ContainsS : Goes Tryd.prog 75 := goes_of Tryd.func75 (by kernel_rfl) (c := bodyOf Tryd.f75) (by kernel_rfl)
theorem eo_ContainsS (s : List V → Int → Int → Int → Int → Option (Bool)) (hs : ∀ (x0 : List V) (x1 : Int) (x2 : Int) (x3 : Int) (x4 : Int) (r0 : Bool), s x0 x1 x2 x3 x4 = some r0 → PureRet Tryd.prog T 75 [.v (.sl 31 x0) .no, .agg [.v (.int .i64 x1) .no, .v (.int .i64 x2) .no, .v (.int .i64 x3) .no, .v (.int .i64 x4) .no]] [.v (.bool r0) .no]) : EntOK Tryd.prog T ⟨75, e_ContainsS s⟩ := by
  refine ⟨go_ContainsS, fun R ds K r h => ?_, fun R ds K => ?_⟩
  · simp only [e_ContainsS] at h
    split at h
    · obtain ⟨r0, h1, h2⟩ := bnd1_some h
      exact ⟨_, h2, hs _ _ _ _ _ _ h1⟩
    · cases h
  · simp only [e_ContainsS]
    split
    · rw [bnd1_b]; rfl
    · rfl
theorem co_ContainsS (N : Nat) : CxOK Tryd.prog (cx_ContainsS N) :=
  cxOK_of2 (es := [⟨91, e_IndexS (s_IndexS N)⟩]) (me := []) (ms := []) T_ok ⟨eo_IndexS _ (p_IndexS N), trivial⟩ trivial trivial rfl (fun _ _ _ _ => rfl) (fun _ _ _ _ _ _ => rfl) rfl
theorem lo_ContainsS (N : Nat) : LoopsOK (cx_ContainsS N) Tryd.f75.ntmps (bodyOf Tryd.f75) :=
  loopsOK_of (k := 0) (by kernel_rfl) trivial
theorem p_ContainsS (N : Nat) (x0 : List V) (x1 : Int) (x2 : Int) (x3 : Int) (x4 : Int) (r0 : Bool) (h : s_ContainsS N x0 x1 x2 x3 x4 = some r0) : PureRet Tryd.prog T 75 [.v (.sl 31 x0) .no, .agg [.v (.int .i64 x1) .no, .v (.int .i64 x2) .no, .v (.int .i64 x3) .no, .v (.int .i64 x4) .no]] [.v (.bool r0) .no] :=
  pure_of (cx := cx_ContainsS N) (by kernel_rfl) (co_ContainsS N) Tryd.func75 (by kernel_rfl) (by kernel_rfl) (lo_ContainsS N) rfl rfl rfl (rf := r_ContainsS) ((s_ContainsS_ok N x0 x1 x2 x3 x4).trans h) (fun rs' m h => by
    unfold r_ContainsS at h
    split at h
    · cases h; exact ⟨rfl, rfl⟩
    · cases h)
noncomputable def e_least {R : Type} (s : Int → Int → List V → Option (List V)) (ds : List D) (K : List D → Option R) : Option R :=
  match ds with
  | [.agg [.v (.int .i64 x0) .no, .v (.int .i64 x1) .no, .v (.sl 24 x2) .no]] => bnd1 (s x0 x1 x2) fun r0 => K [.v (.sl 31 r0) .no]
  | _ => none
noncomputable def r_least (rs : List D) (_ : Mem) : Option (List V) :=
  match rs with
  | [.v (.sl 31 r0) _] => some (r0)
  | _ => none
noncomputable def F_least_15 {R : Type} (N : Nat) (f : Int → Int → List V → Option (List V)) (vs1 : List V) (n2 : Int) (n4 : Int) (n5 : Int) (vs6 : List V) (Lq : List V → Int → Option R) (K0 : List V → Option R) (vs0 : List V) (n3 : Int) : Option R :=
  br (decide (n3 < n2))
  (br (decide (0 ≤ n3) && decide (n3 < (↑vs1.length : Int)))
    (at? vs1 n3.toNat fun x0 =>
      x0.unAgg fun l1 =>
        unCons l1 fun x2 l3 =>
          V.unInt IntKind.i64 x2 fun n4 =>
            unCons l3 fun x5 l6 =>
              V.unInt IntKind.i64 x5 fun n7 =>
                unCons l6 fun x8 l9 => V.unSl 24 x8 fun l10 => unNil l9 (bnd1 (f n4 n7 l10) fun l11 => br (decide ((vs0.length + l11.length) * 32 ≤ 140737488355328)) (Lq (vs0 ++ l11) (IntKind.i64.wrap (n3 + 1))) none))
    none)
  (K0 vs0)
noncomputable def S_least_15 {R : Type} (N : Nat) (f : Int → Int → List V → Option (List V)) (vs1 : List V) (n2 : Int) (n4 : Int) (n5 : Int) (vs6 : List V) : Nat → List V → Int → (List V → Option R) → Option R
  | 0, _, _, _ => none
  | t + 1, vs0, n3, K0 => F_least_15 N f vs1 n2 n4 n5 vs6 (fun vs0 n3 => S_least_15 N f vs1 n2 n4 n5 vs6 t vs0 n3 K0) K0 vs0 n3
noncomputable def l_least_15 {R : Type} (N : Nat) (f : Int → Int → List V → Option (List V)) (ds : List D) (m : Mem) (K : Ex → List D → Mem → Option R) : Option R :=
  match ds, m with
  | [(.ptr 0 1 0), (.v (.sl 31 vs0) (.own (.slot 3) 31)), .any, .any, .any, .any, (.v (.sl 24 vs1) .no), (.v (.int .i64 n2) .no), (.v (.int .i64 n3) .no)], [[(1, ⟨24, [(.v (.int .i64 n4) .no), (.v (.int .i64 n5) .no), (.v (.sl 24 vs6) .no)]⟩)]] => S_least_15 N f vs1 n2 n4 n5 vs6 N vs0 n3 (fun a0 => K (.exit 1) [(.ptr 0 1 0), (.v (.sl 31 a0) (.own (.slot 3) 31)), .any, .any, .any, .any] [[(1, ⟨24, [(.v (.int .i64 n4) .no), (.v (.int .i64 n5) .no), (.v (.sl 24 vs6) .no)]⟩)]])
  | _, _ => none
noncomputable def F_least_30 {R : Type} (N : Nat) (f : Int → Int → List V → Option (List V)) (vs0 : List V) (vs2 : List V) (n3 : Int) (n4 : Int) (vs5 : List V) (n6 : Int) (n7 : Int) (vs8 : List V) (n9 : Int) (n11 : Int) (n12 : Int) (vs13 : List V) (n14 : Int) (n15 : Int) (vs16 : List V) (n17 : Int) (n18 : Int) (n19 : Int) (n20 : Int) (Lq : List V → Int → Option R) (K0 : List V → Option R) (vs1 : List V) (n10 : Int) : Option R :=
  br (decide (n10 < n9))
  (br (decide (0 ≤ n10) && decide (n10 < (↑vs8.length : Int)))
    (at? vs8 n10.toNat fun x0 =>
      x0.unAgg fun l1 =>
        unCons l1 fun x2 l3 =>
          V.unInt IntKind.i64 x2 fun n4 =>
            unCons l3 fun x5 l6 =>
              V.unInt IntKind.i64 x5 fun n7 =>
                unCons l6 fun x8 l9 =>
                  V.unInt IntKind.i64 x8 fun n10_1 =>
                    unCons l9 fun x11 l12 =>
                      V.unInt IntKind.i64 x11 fun n13 =>
                        unNil l12
                          (bnd4 (s_join N n17 n18 n19 n20 n4 n7 n10_1 n13) fun n14 n15 n16 n17 =>
                            bnd1 (s_ContainsS N vs1 n14 n15 n16 n17) fun b18 =>
                              br (!b18)
                                (br (decide ((vs1.length + [V.agg [V.int IntKind.i64 n14, V.int IntKind.i64 n15, V.int IntKind.i64 n16, V.int IntKind.i64 n17]].length) * 32 ≤ 140737488355328))
                                  (Lq (vs1 ++ [V.agg [V.int IntKind.i64 n14, V.int IntKind.i64 n15, V.int IntKind.i64 n16, V.int IntKind.i64 n17]]) (IntKind.i64.wrap (n10 + 1))) none)
                                (Lq vs1 (IntKind.i64.wrap (n10 + 1)))))
    none)
  (K0 vs1)
noncomputable def S_least_30 {R : Type} (N : Nat) (f : Int → Int → List V → Option (List V)) (vs0 : List V) (vs2 : List V) (n3 : Int) (n4 : Int) (vs5 : List V) (n6 : Int) (n7 : Int) (vs8 : List V) (n9 : Int) (n11 : Int) (n12 : Int) (vs13 : List V) (n14 : Int) (n15 : Int) (vs16 : List V) (n17 : Int) (n18 : Int) (n19 : Int) (n20 : Int) : Nat → List V → Int → (List V → Option R) → Option R
  | 0, _, _, _ => none
  | t + 1, vs1, n10, K0 => F_least_30 N f vs0 vs2 n3 n4 vs5 n6 n7 vs8 n9 n11 n12 vs13 n14 n15 vs16 n17 n18 n19 n20 (fun vs1 n10 => S_least_30 N f vs0 vs2 n3 n4 vs5 n6 n7 vs8 n9 n11 n12 vs13 n14 n15 vs16 n17 n18 n19 n20 t vs1 n10 K0) K0 vs1 n10
noncomputable def l_least_30 {R : Type} (N : Nat) (f : Int → Int → List V → Option (List V)) (ds : List D) (m : Mem) (K : Ex → List D → Mem → Option R) : Option R :=
  match ds, m with
  | [(.ptr 0 1 0), .any, (.v (.sl 31 vs0) (.own (.slot 6) 31)), (.ptr 0 8 0), (.v (.sl 31 vs1) (.own (.slot 9) 31)), (.ptr 0 11 0), (.v (.sl 24 vs2) .no), (.v (.int .i64 n3) .no), (.v (.int .i64 n4) .no), (.v (.sl 31 vs5) .no), (.v (.int .i64 n6) .no), (.v (.int .i64 n7) .no), (.v (.sl 31 vs8) .no), (.v (.int .i64 n9) .no), (.v (.int .i64 n10) .no)], [[(1, ⟨24, [(.v (.int .i64 n11) .no), (.v (.int .i64 n12) .no), (.v (.sl 24 vs13) .no)]⟩), (8, ⟨24, [(.v (.int .i64 n14) .no), (.v (.int .i64 n15) .no), (.v (.sl 24 vs16) .no)]⟩), (11, ⟨31, [(.v (.int .i64 n17) .no), (.v (.int .i64 n18) .no), (.v (.int .i64 n19) .no), (.v (.int .i64 n20) .no)]⟩)]] => S_least_30 N f vs0 vs2 n3 n4 vs5 n6 n7 vs8 n9 n11 n12 vs13 n14 n15 vs16 n17 n18 n19 n20 N vs1 n10 (fun a1 => K (.exit 7) [(.ptr 0 1 0), .any, (.v (.sl 31 vs0) (.own (.slot 6) 31)), (.ptr 0 8 0), (.v (.sl 31 a1) (.own (.slot 9) 31)), (.ptr 0 11 0), (.v (.sl 24 vs2) .no), (.v (.int .i64 n3) .no), (.v (.int .i64 n4) .no), (.v (.sl 31 vs5) .no), (.v (.int .i64 n6) .no), (.v (.int .i64 n7) .no)] [[(1, ⟨24, [(.v (.int .i64 n11) .no), (.v (.int .i64 n12) .no), (.v (.sl 24 vs13) .no)]⟩), (8, ⟨24, [(.v (.int .i64 n14) .no), (.v (.int .i64 n15) .no), (.v (.sl 24 vs16) .no)]⟩), (11, ⟨31, [(.v (.int .i64 n17) .no), (.v (.int .i64 n18) .no), (.v (.int .i64 n19) .no), (.v (.int .i64 n20) .no)]⟩)]])
  | _, _ => none
noncomputable def F_least_27 {R : Type} (N : Nat) (f : Int → Int → List V → Option (List V)) (vs0 : List V) (vs2 : List V) (n3 : Int) (n4 : Int) (vs5 : List V) (n6 : Int) (n8 : Int) (n9 : Int) (vs10 : List V) (n11 : Int) (n12 : Int) (vs13 : List V) (Lq : List V → Int → Option R) (K0 : List V → Option R) (vs1 : List V) (n7 : Int) : Option R :=
  br (decide (n7 < n6))
  (br (decide (0 ≤ n7) && decide (n7 < (↑vs5.length : Int)))
    (at? vs5 n7.toNat fun x0 =>
      x0.unAgg fun l1 =>
        unCons l1 fun x2 l3 =>
          V.unInt IntKind.i64 x2 fun n4_1 =>
            unCons l3 fun x5 l6 =>
              V.unInt IntKind.i64 x5 fun n7_1 =>
                unCons l6 fun x8 l9 =>
                  V.unInt IntKind.i64 x8 fun n10 =>
                    unCons l9 fun x11 l12 =>
                      V.unInt IntKind.i64 x11 fun n13 => unNil l12 (S_least_30 N f vs0 vs2 n3 n4 vs5 n6 n7 vs0 (↑vs0.length : Int) n8 n9 vs10 n11 n12 vs13 n4_1 n7_1 n10 n13 N vs1 0 fun l14 => Lq l14 (IntKind.i64.wrap (n7 + 1))))
    none)
  (K0 vs1)
noncomputable def S_least_27 {R : Type} (N : Nat) (f : Int → Int → List V → Option (List V)) (vs0 : List V) (vs2 : List V) (n3 : Int) (n4 : Int) (vs5 : List V) (n6 : Int) (n8 : Int) (n9 : Int) (vs10 : List V) (n11 : Int) (n12 : Int) (vs13 : List V) : Nat → List V → Int → (List V → Option R) → Option R
  | 0, _, _, _ => none
  | t + 1, vs1, n7, K0 => F_least_27 N f vs0 vs2 n3 n4 vs5 n6 n8 n9 vs10 n11 n12 vs13 (fun vs1 n7 => S_least_27 N f vs0 vs2 n3 n4 vs5 n6 n8 n9 vs10 n11 n12 vs13 t vs1 n7 K0) K0 vs1 n7
noncomputable def l_least_27 {R : Type} (N : Nat) (f : Int → Int → List V → Option (List V)) (ds : List D) (m : Mem) (K : Ex → List D → Mem → Option R) : Option R :=
  match ds, m with
  | [(.ptr 0 1 0), .any, (.v (.sl 31 vs0) (.own (.slot 6) 31)), (.ptr 0 8 0), (.v (.sl 31 vs1) (.own (.slot 9) 31)), (.v (.sl 24 vs2) .no), (.v (.int .i64 n3) .no), (.v (.int .i64 n4) .no), (.v (.sl 31 vs5) .no), (.v (.int .i64 n6) .no), (.v (.int .i64 n7) .no)], [[(1, ⟨24, [(.v (.int .i64 n8) .no), (.v (.int .i64 n9) .no), (.v (.sl 24 vs10) .no)]⟩), (8, ⟨24, [(.v (.int .i64 n11) .no), (.v (.int .i64 n12) .no), (.v (.sl 24 vs13) .no)]⟩)]] => S_least_27 N f vs0 vs2 n3 n4 vs5 n6 n8 n9 vs10 n11 n12 vs13 N vs1 n7 (fun a0 => K (.exit 5) [(.ptr 0 1 0), .any, (.ptr 0 8 0), (.v (.sl 31 a0) (.own (.slot 9) 31)), (.v (.sl 24 vs2) .no), (.v (.int .i64 n3) .no), (.v (.int .i64 n4) .no)] [[(1, ⟨24, [(.v (.int .i64 n8) .no), (.v (.int .i64 n9) .no), (.v (.sl 24 vs10) .no)]⟩), (8, ⟨24, [(.v (.int .i64 n11) .no), (.v (.int .i64 n12) .no), (.v (.sl 24 vs13) .no)]⟩)]])
  | _, _ => none
noncomputable def F_least_23 {R : Type} (N : Nat) (f : Int → Int → List V → Option (List V)) (vs1 : List V) (n2 : Int) (n4 : Int) (n5 : Int) (vs6 : List V) (Lq : List V → Int → Option R) (K0 : List V → Option R) (vs0 : List V) (n3 : Int) : Option R :=
  br (decide (n3 < n2))
  (br (decide (0 ≤ n3) && decide (n3 < (↑vs1.length : Int)))
    (at? vs1 n3.toNat fun x0 =>
      x0.unAgg fun l1 =>
        unCons l1 fun x2 l3 =>
          V.unInt IntKind.i64 x2 fun n4_1 =>
            unCons l3 fun x5 l6 =>
              V.unInt IntKind.i64 x5 fun n7 =>
                unCons l6 fun x8 l9 => V.unSl 24 x8 fun l10 => unNil l9 (bnd1 (f n4_1 n7 l10) fun l11 => S_least_27 N f vs0 vs1 n2 n3 l11 (↑l11.length : Int) n4 n5 vs6 n4_1 n7 l10 N [] 0 fun l12 => Lq l12 (IntKind.i64.wrap (n3 + 1))))
    none)
  (K0 vs0)
noncomputable def S_least_23 {R : Type} (N : Nat) (f : Int → Int → List V → Option (List V)) (vs1 : List V) (n2 : Int) (n4 : Int) (n5 : Int) (vs6 : List V) : Nat → List V → Int → (List V → Option R) → Option R
  | 0, _, _, _ => none
  | t + 1, vs0, n3, K0 => F_least_23 N f vs1 n2 n4 n5 vs6 (fun vs0 n3 => S_least_23 N f vs1 n2 n4 n5 vs6 t vs0 n3 K0) K0 vs0 n3
noncomputable def l_least_23 {R : Type} (N : Nat) (f : Int → Int → List V → Option (List V)) (ds : List D) (m : Mem) (K : Ex → List D → Mem → Option R) : Option R :=
  match ds, m with
  | [(.ptr 0 1 0), .any, (.v (.sl 31 vs0) (.own (.slot 6) 31)), (.v (.sl 24 vs1) .no), (.v (.int .i64 n2) .no), (.v (.int .i64 n3) .no)], [[(1, ⟨24, [(.v (.int .i64 n4) .no), (.v (.int .i64 n5) .no), (.v (.sl 24 vs6) .no)]⟩)]] => S_least_23 N f vs1 n2 n4 n5 vs6 N vs0 n3 (fun a0 => K (.exit 3) [(.ptr 0 1 0), .any, (.v (.sl 31 a0) (.own (.slot 6) 31))] [[(1, ⟨24, [(.v (.int .i64 n4) .no), (.v (.int .i64 n5) .no), (.v (.sl 24 vs6) .no)]⟩)]])
  | _, _ => none
noncomputable def B_least (N : Nat) (f : Int → Int → List V → Option (List V)) (x0 : Int) (x1 : Int) (x2 : List V) : Option (List V) :=
  br (decide (x0 = 1)) (some [V.agg [V.int IntKind.i64 0, V.int IntKind.i64 0, V.int IntKind.i64 0, V.int IntKind.i64 0]])
  (br (decide (x0 = 2)) (br (decide (0 ≤ x1)) (some [V.agg [V.int IntKind.i64 (shlI IntKind.i64 1 x1), V.int IntKind.i64 0, V.int IntKind.i64 0, V.int IntKind.i64 0]]) none)
    (br (decide (x0 = 3)) (br (decide (0 ≤ x1)) (some [V.agg [V.int IntKind.i64 0, V.int IntKind.i64 (shlI IntKind.i64 1 x1), V.int IntKind.i64 0, V.int IntKind.i64 0]]) none)
      (br (decide (x0 = 4)) (some [V.agg [V.int IntKind.i64 0, V.int IntKind.i64 0, V.int IntKind.i64 x1, V.int IntKind.i64 0]])
        (br (decide (x0 = 5)) (some [V.agg [V.int IntKind.i64 0, V.int IntKind.i64 0, V.int IntKind.i64 0, V.int IntKind.i64 x1]])
          (br (decide (x0 = 7)) (S_least_15 N f x2 (↑x2.length : Int) x0 x1 x2 N [] 0 fun l0 => some l0)
            (br (decide (x0 = 6)) (S_least_23 N f x2 (↑x2.length : Int) x0 x1 x2 N [V.agg [V.int IntKind.i64 0, V.int IntKind.i64 0, V.int IntKind.i64 0, V.int IntKind.i64 0]] 0 fun l1 => some l1) (some [])))))))
noncomputable def s_least (N : Nat) : Nat → Int → Int → List V → Option (List V)
  | 0, _, _, _ => none
  | n + 1, x0, x1, x2 => B_least N (s_least N n) x0 x1 x2
noncomputable def cx_least (N : Nat) (f : Int → Int → List V → Option (List V)) : Cx := { T := T, isPure := tabP [⟨48, e_least f⟩, ⟨74, e_join (s_join N)⟩, ⟨75, e_ContainsS (s_ContainsS N)⟩], pureK := fun g ds K => tabK [⟨48, e_least f⟩, ⟨74, e_join (s_join N)⟩, ⟨75, e_ContainsS (s_ContainsS N)⟩] g ds K, memK := fun g dst ds m K => tabMK [] g dst ds m K, meth := tabM [], keep := fun r => match r with | 15 => [1, 3, 8, 11, 13, 14, 50, 51, 52] | 23 => [1, 5, 6, 67, 68, 69] | 27 => [1, 5, 6, 8, 9, 67, 68, 69, 74, 75, 76] | 30 => [1, 5, 6, 8, 9, 11, 67, 68, 69, 74, 75, 76, 80, 81, 82] | _ => [], keepX := fun r => match r with | 15 => [1, 3, 8, 11, 13, 14] | 23 => [1, 5, 6] | 27 => [1, 5, 8, 9, 67, 68, 69] | 30 => [1, 5, 6, 8, 9, 11, 67, 68, 69, 74, 75, 76] | _ => [], loopT := fun r ds m K => match r with | 15 => l_least_15 N f ds m K | 30 => l_least_30 N f ds m K | 27 => l_least_27 N f ds m K | 23 => l_least_23 N f ds m K | _ => none, jumps := 9 }
theorem F_least_15_ok {R : Type} (N : Nat) (f : Int → Int → List V → Option (List V)) (vs1 : List V) (n2 : Int) (n4 : Int) (n5 : Int) (vs6 : List V) (vs0 : List V) (n3 : Int) (L : List D → Mem → Option R) (K : Ex → List D → Mem → Option R) :
    roundK (fun st K => codeK (cx_least N f) (loopN Tryd.f48 0) st K) 102 [1, 3, 8, 11, 13, 14, 50, 51, 52] [1, 3, 8, 11, 13, 14] L [(.ptr 0 1 0), (.v (.sl 31 vs0) (.own (.slot 3) 31)), .any, .any, .any, .any, (.v (.sl 24 vs1) .no), (.v (.int .i64 n2) .no), (.v (.int .i64 n3) .no)] [[(1, ⟨24, [(.v (.int .i64 n4) .no), (.v (.int .i64 n5) .no), (.v (.sl 24 vs6) .no)]⟩)]] K = F_least_15 N f vs1 n2 n4 n5 vs6 (fun vs0 n3 => L [(.ptr 0 1 0), (.v (.sl 31 vs0) (.own (.slot 3) 31)), .any, .any, .any, .any, (.v (.sl 24 vs1) .no), (.v (.int .i64 n2) .no), (.v (.int .i64 n3) .no)] [[(1, ⟨24, [(.v (.int .i64 n4) .no), (.v (.int .i64 n5) .no), (.v (.sl 24 vs6) .no)]⟩)]]) (fun a0 => K (.exit 1) [(.ptr 0 1 0), (.v (.sl 31 a0) (.own (.slot 3) 31)), .any, .any, .any, .any] [[(1, ⟨24, [(.v (.int .i64 n4) .no), (.v (.int .i64 n5) .no), (.v (.sl 24 vs6) .no)]⟩)]]) vs0 n3 := by
  kernel_rfl
theorem S_least_15_ok {R : Type} (N : Nat) (f : Int → Int → List V → Option (List V)) (vs1 : List V) (n2 : Int) (n4 : Int) (n5 : Int) (vs6 : List V) (K : Ex → List D → Mem → Option R) : ∀ (t : Nat) (vs0 : List V) (n3 : Int),
    loopK (fun st K => codeK (cx_least N f) (loopN Tryd.f48 0) st K) 102 [1, 3, 8, 11, 13, 14, 50, 51, 52] [1, 3, 8, 11, 13, 14] t [(.ptr 0 1 0), (.v (.sl 31 vs0) (.own (.slot 3) 31)), .any, .any, .any, .any, (.v (.sl 24 vs1) .no), (.v (.int .i64 n2) .no), (.v (.int .i64 n3) .no)] [[(1, ⟨24, [(.v (.int .i64 n4) .no), (.v (.int .i64 n5) .no), (.v (.sl 24 vs6) .no)]⟩)]] K = S_least_15 N f vs1 n2 n4 n5 vs6 t vs0 n3 (fun a0 => K (.exit 1) [(.ptr 0 1 0), (.v (.sl 31 a0) (.own (.slot 3) 31)), .any, .any, .any, .any] [[(1, ⟨24, [(.v (.int .i64 n4) .no), (.v (.int .i64 n5) .no), (.v (.sl 24 vs6) .no)]⟩)]])
  | 0, vs0, n3 => rfl
  | t + 1, vs0, n3 => (F_least_15_ok N f vs1 n2 n4 n5 vs6 vs0 n3 _ K).trans (congrArg (fun L => F_least_15 N f vs1 n2 n4 n5 vs6 L (fun a0 => K (.exit 1) [(.ptr 0 1 0), (.v (.sl 31 a0) (.own (.slot 3) 31)), .any, .any, .any, .any] [[(1, ⟨24, [(.v (.int .i64 n4) .no), (.v (.int .i64 n5) .no), (.v (.sl 24 vs6) .no)]⟩)]]) vs0 n3) (funext fun vs0 => funext fun n3 => S_least_15_ok N f vs1 n2 n4 n5 vs6 K t vs0 n3))
theorem F_least_30_ok {R : Type} (N : Nat) (f : Int → Int → List V → Option (List V)) (vs0 : List V) (vs2 : List V) (n3 : Int) (n4 : Int) (vs5 : List V) (n6 : Int) (n7 : Int) (vs8 : List V) (n9 : Int) (n11 : Int) (n12 : Int) (vs13 : List V) (n14 : Int) (n15 : Int) (vs16 : List V) (n17 : Int) (n18 : Int) (n19 : Int) (n20 : Int) (vs1 : List V) (n10 : Int) (L : List D → Mem → Option R) (K : Ex → List D → Mem → Option R) :
    roundK (fun st K => codeK (cx_least N f) (loopN Tryd.f48 3) st K) 102 [1, 5, 6, 8, 9, 11, 67, 68, 69, 74, 75, 76, 80, 81, 82] [1, 5, 6, 8, 9, 11, 67, 68, 69, 74, 75, 76] L [(.ptr 0 1 0), .any, (.v (.sl 31 vs0) (.own (.slot 6) 31)), (.ptr 0 8 0), (.v (.sl 31 vs1) (.own (.slot 9) 31)), (.ptr 0 11 0), (.v (.sl 24 vs2) .no), (.v (.int .i64 n3) .no), (.v (.int .i64 n4) .no), (.v (.sl 31 vs5) .no), (.v (.int .i64 n6) .no), (.v (.int .i64 n7) .no), (.v (.sl 31 vs8) .no), (.v (.int .i64 n9) .no), (.v (.int .i64 n10) .no)] [[(1, ⟨24, [(.v (.int .i64 n11) .no), (.v (.int .i64 n12) .no), (.v (.sl 24 vs13) .no)]⟩), (8, ⟨24, [(.v (.int .i64 n14) .no), (.v (.int .i64 n15) .no), (.v (.sl 24 vs16) .no)]⟩), (11, ⟨31, [(.v (.int .i64 n17) .no), (.v (.int .i64 n18) .no), (.v (.int .i64 n19) .no), (.v (.int .i64 n20) .no)]⟩)]] K = F_least_30 N f vs0 vs2 n3 n4 vs5 n6 n7 vs8 n9 n11 n12 vs13 n14 n15 vs16 n17 n18 n19 n20 (fun vs1 n10 => L [(.ptr 0 1 0), .any, (.v (.sl 31 vs0) (.own (.slot 6) 31)), (.ptr 0 8 0), (.v (.sl 31 vs1) (.own (.slot 9) 31)), (.ptr 0 11 0), (.v (.sl 24 vs2) .no), (.v (.int .i64 n3) .no), (.v (.int .i64 n4) .no), (.v (.sl 31 vs5) .no), (.v (.int .i64 n6) .no), (.v (.int .i64 n7) .no), (.v (.sl 31 vs8) .no), (.v (.int .i64 n9) .no), (.v (.int .i64 n10) .no)] [[(1, ⟨24, [(.v (.int .i64 n11) .no), (.v (.int .i64 n12) .no), (.v (.sl 24 vs13) .no)]⟩), (8, ⟨24, [(.v (.int .i64 n14) .no), (.v (.int .i64 n15) .no), (.v (.sl 24 vs16) .no)]⟩), (11, ⟨31, [(.v (.int .i64 n17) .no), (.v (.int .i64 n18) .no), (.v (.int .i64 n19) .no), (.v (.int .i64 n20) .no)]⟩)]]) (fun a1 => K (.exit 7) [(.ptr 0 1 0), .any, (.v (.sl 31 vs0) (.own (.slot 6) 31)), (.ptr 0 8 0), (.v (.sl 31 a1) (.own (.slot 9) 31)), (.ptr 0 11 0), (.v (.sl 24 vs2) .no), (.v (.int .i64 n3) .no), (.v (.int .i64 n4) .no), (.v (.sl 31 vs5) .no), (.v (.int .i64 n6) .no), (.v (.int .i64 n7) .no)] [[(1, ⟨24, [(.v (.int .i64 n11) .no), (.v (.int .i64 n12) .no), (.v (.sl 24 vs13) .no)]⟩), (8, ⟨24, [(.v (.int .i64 n14) .no), (.v (.int .i64 n15) .no), (.v (.sl 24 vs16) .no)]⟩), (11, ⟨31, [(.v (.int .i64 n17) .no), (.v (.int .i64 n18) .no), (.v (.int .i64 n19) .no), (.v (.int .i64 n20) .no)]⟩)]]) vs1 n10 := by
  kernel_rfl
theorem S_least_30_ok {R : Type} (N : Nat) (f : Int → Int → List V → Option (List V)) (vs0 : List V) (vs2 : List V) (n3 : Int) (n4 : Int) (vs5 : List V) (n6 : Int) (n7 : Int) (vs8 : List V) (n9 : Int) (n11 : Int) (n12 : Int) (vs13 : List V) (n14 : Int) (n15 : Int) (vs16 : List V) (n17 : Int) (n18 : Int) (n19 : Int) (n20 : Int) (K : Ex → List D → Mem → Option R) : ∀ (t : Nat) (vs1 : List V) (n10 : Int),
    loopK (fun st K => codeK (cx_least N f) (loopN Tryd.f48 3) st K) 102 [1, 5, 6, 8, 9, 11, 67, 68, 69, 74, 75, 76, 80, 81, 82] [1, 5, 6, 8, 9, 11, 67, 68, 69, 74, 75, 76] t [(.ptr 0 1 0), .any, (.v (.sl 31 vs0) (.own (.slot 6) 31)), (.ptr 0 8 0), (.v (.sl 31 vs1) (.own (.slot 9) 31)), (.ptr 0 11 0), (.v (.sl 24 vs2) .no), (.v (.int .i64 n3) .no), (.v (.int .i64 n4) .no), (.v (.sl 31 vs5) .no), (.v (.int .i64 n6) .no), (.v (.int .i64 n7) .no), (.v (.sl 31 vs8) .no), (.v (.int .i64 n9) .no), (.v (.int .i64 n10) .no)] [[(1, ⟨24, [(.v (.int .i64 n11) .no), (.v (.int .i64 n12) .no), (.v (.sl 24 vs13) .no)]⟩), (8, ⟨24, [(.v (.int .i64 n14) .no), (.v (.int .i64 n15) .no), (.v (.sl 24 vs16) .no)]⟩), (11, ⟨31, [(.v (.int .i64 n17) .no), (.v (.int .i64 n18) .no), (.v (.int .i64 n19) .no), (.v (.int .i64 n20) .no)]⟩)]] K = S_least_30 N f vs0 vs2 n3 n4 vs5 n6 n7 vs8 n9 n11 n12 vs13 n14 n15 vs16 n17 n18 n19 n20 t vs1 n10 (fun a1 => K (.exit 7) [(.ptr 0 1 0), .any, (.v (.sl 31 vs0) (.own (.slot 6) 31)), (.ptr 0 8 0), (.v (.sl 31 a1) (.own (.slot 9) 31)), (.ptr 0 11 0), (.v (.sl 24 vs2) .no), (.v (.int .i64 n3) .no), (.v (.int .i64 n4) .no), (.v (.sl 31 vs5) .no), (.v (.int .i64 n6) .no), (.v (.int .i64 n7) .no)] [[(1, ⟨24, [(.v (.int .i64 n11) .no), (.v (.int .i64 n12) .no), (.v (.sl 24 vs13) .no)]⟩), (8, ⟨24, [(.v (.int .i64 n14) .no), (.v (.int .i64 n15) .no), (.v (.sl 24 vs16) .no)]⟩), (11, ⟨31, [(.v (.int .i64 n17) .no), (.v (.int .i64 n18) .no), (.v (.int .i64 n19) .no), (.v (.int .i64 n20) .no)]⟩)]])
  | 0, vs1, n10 => rfl
  | t + 1, vs1, n10 => (F_least_30_ok N f vs0 vs2 n3 n4 vs5 n6 n7 vs8 n9 n11 n12 vs13 n14 n15 vs16 n17 n18 n19 n20 vs1 n10 _ K).trans (congrArg (fun L => F_least_30 N f vs0 vs2 n3 n4 vs5 n6 n7 vs8 n9 n11 n12 vs13 n14 n15 vs16 n17 n18 n19 n20 L (fun a1 => K (.exit 7) [(.ptr 0 1 0), .any, (.v (.sl 31 vs0) (.own (.slot 6) 31)), (.ptr 0 8 0), (.v (.sl 31 a1) (.own (.slot 9) 31)), (.ptr 0 11 0), (.v (.sl 24 vs2) .no), (.v (.int .i64 n3) .no), (.v (.int .i64 n4) .no), (.v (.sl 31 vs5) .no), (.v (.int .i64 n6) .no), (.v (.int .i64 n7) .no)] [[(1, ⟨24, [(.v (.int .i64 n11) .no), (.v (.int .i64 n12) .no), (.v (.sl 24 vs13) .no)]⟩), (8, ⟨24, [(.v (.int .i64 n14) .no), (.v (.int .i64 n15) .no), (.v (.sl 24 vs16) .no)]⟩), (11, ⟨31, [(.v (.int .i64 n17) .no), (.v (.int .i64 n18) .no), (.v (.int .i64 n19) .no), (.v (.int .i64 n20) .no)]⟩)]]) vs1 n10) (funext fun vs1 => funext fun n10 => S_least_30_ok N f vs0 vs2 n3 n4 vs5 n6 n7 vs8 n9 n11 n12 vs13 n14 n15 vs16 n17 n18 n19 n20 K t vs1 n10))
theorem F_least_27_ok {R : Type} (N : Nat) (f : Int → Int → List V → Option (List V)) (vs0 : List V) (vs2 : List V) (n3 : Int) (n4 : Int) (vs5 : List V) (n6 : Int) (n8 : Int) (n9 : Int) (vs10 : List V) (n11 : Int) (n12 : Int) (vs13 : List V) (vs1 : List V) (n7 : Int) (L : List D → Mem → Option R) (K : Ex → List D → Mem → Option R) :
    roundK (fun st K => codeK (cx_least N f) (loopN Tryd.f48 2) st K) 102 [1, 5, 6, 8, 9, 67, 68, 69, 74, 75, 76] [1, 5, 8, 9, 67, 68, 69] L [(.ptr 0 1 0), .any, (.v (.sl 31 vs0) (.own (.slot 6) 31)), (.ptr 0 8 0), (.v (.sl 31 vs1) (.own (.slot 9) 31)), (.v (.sl 24 vs2) .no), (.v (.int .i64 n3) .no), (.v (.int .i64 n4) .no), (.v (.sl 31 vs5) .no), (.v (.int .i64 n6) .no), (.v (.int .i64 n7) .no)] [[(1, ⟨24, [(.v (.int .i64 n8) .no), (.v (.int .i64 n9) .no), (.v (.sl 24 vs10) .no)]⟩), (8, ⟨24, [(.v (.int .i64 n11) .no), (.v (.int .i64 n12) .no), (.v (.sl 24 vs13) .no)]⟩)]] K = F_least_27 N f vs0 vs2 n3 n4 vs5 n6 n8 n9 vs10 n11 n12 vs13 (fun vs1 n7 => L [(.ptr 0 1 0), .any, (.v (.sl 31 vs0) (.own (.slot 6) 31)), (.ptr 0 8 0), (.v (.sl 31 vs1) (.own (.slot 9) 31)), (.v (.sl 24 vs2) .no), (.v (.int .i64 n3) .no), (.v (.int .i64 n4) .no), (.v (.sl 31 vs5) .no), (.v (.int .i64 n6) .no), (.v (.int .i64 n7) .no)] [[(1, ⟨24, [(.v (.int .i64 n8) .no), (.v (.int .i64 n9) .no), (.v (.sl 24 vs10) .no)]⟩), (8, ⟨24, [(.v (.int .i64 n11) .no), (.v (.int .i64 n12) .no), (.v (.sl 24 vs13) .no)]⟩)]]) (fun a0 => K (.exit 5) [(.ptr 0 1 0), .any, (.ptr 0 8 0), (.v (.sl 31 a0) (.own (.slot 9) 31)), (.v (.sl 24 vs2) .no), (.v (.int .i64 n3) .no), (.v (.int .i64 n4) .no)] [[(1, ⟨24, [(.v (.int .i64 n8) .no), (.v (.int .i64 n9) .no), (.v (.sl 24 vs10) .no)]⟩), (8, ⟨24, [(.v (.int .i64 n11) .no), (.v (.int .i64 n12) .no), (.v (.sl 24 vs13) .no)]⟩)]]) vs1 n7 := by
  kernel_rfl
theorem S_least_27_ok {R : Type} (N : Nat) (f : Int → Int → List V → Option (List V)) (vs0 : List V) (vs2 : List V) (n3 : Int) (n4 : Int) (vs5 : List V) (n6 : Int) (n8 : Int) (n9 : Int) (vs10 : List V) (n11 : Int) (n12 : Int) (vs13 : List V) (K : Ex → List D → Mem → Option R) : ∀ (t : Nat) (vs1 : List V) (n7 : Int),
    loopK (fun st K => codeK (cx_least N f) (loopN Tryd.f48 2) st K) 102 [1, 5, 6, 8, 9, 67, 68, 69, 74, 75, 76] [1, 5, 8, 9, 67, 68, 69] t [(.ptr 0 1 0), .any, (.v (.sl 31 vs0) (.own (.slot 6) 31)), (.ptr 0 8 0), (.v (.sl 31 vs1) (.own (.slot 9) 31)), (.v (.sl 24 vs2) .no), (.v (.int .i64 n3) .no), (.v (.int .i64 n4) .no), (.v (.sl 31 vs5) .no), (.v (.int .i64 n6) .no), (.v (.int .i64 n7) .no)] [[(1, ⟨24, [(.v (.int .i64 n8) .no), (.v (.int .i64 n9) .no), (.v (.sl 24 vs10) .no)]⟩), (8, ⟨24, [(.v (.int .i64 n11) .no), (.v (.int .i64 n12) .no), (.v (.sl 24 vs13) .no)]⟩)]] K = S_least_27 N f vs0 vs2 n3 n4 vs5 n6 n8 n9 vs10 n11 n12 vs13 t vs1 n7 (fun a0 => K (.exit 5) [(.ptr 0 1 0), .any, (.ptr 0 8 0), (.v (.sl 31 a0) (.own (.slot 9) 31)), (.v (.sl 24 vs2) .no), (.v (.int .i64 n3) .no), (.v (.int .i64 n4) .no)] [[(1, ⟨24, [(.v (.int .i64 n8) .no), (.v (.int .i64 n9) .no), (.v (.sl 24 vs10) .no)]⟩), (8, ⟨24, [(.v (.int .i64 n11) .no), (.v (.int .i64 n12) .no), (.v (.sl 24 vs13) .no)]⟩)]])
  | 0, vs1, n7 => rfl
  | t + 1, vs1, n7 => (F_least_27_ok N f vs0 vs2 n3 n4 vs5 n6 n8 n9 vs10 n11 n12 vs13 vs1 n7 _ K).trans (congrArg (fun L => F_least_27 N f vs0 vs2 n3 n4 vs5 n6 n8 n9 vs10 n11 n12 vs13 L (fun a0 => K (.exit 5) [(.ptr 0 1 0), .any, (.ptr 0 8 0), (.v (.sl 31 a0) (.own (.slot 9) 31)), (.v (.sl 24 vs2) .no), (.v (.int .i64 n3) .no), (.v (.int .i64 n4) .no)] [[(1, ⟨24, [(.v (.int .i64 n8) .no), (.v (.int .i64 n9) .no), (.v (.sl 24 vs10) .no)]⟩), (8, ⟨24, [(.v (.int .i64 n11) .no), (.v (.int .i64 n12) .no), (.v (.sl 24 vs13) .no)]⟩)]]) vs1 n7) (funext fun vs1 => funext fun n7 => S_least_27_ok N f vs0 vs2 n3 n4 vs5 n6 n8 n9 vs10 n11 n12 vs13 K t vs1 n7))
theorem F_least_23_ok {R : Type} (N : Nat) (f : Int → Int → List V → Option (List V)) (vs1 : List V) (n2 : Int) (n4 : Int) (n5 : Int) (vs6 : List V) (vs0 : List V) (n3 : Int) (L : List D → Mem → Option R) (K : Ex → List D → Mem → Option R) :
    roundK (fun st K => codeK (cx_least N f) (loopN Tryd.f48 1) st K) 102 [1, 5, 6, 67, 68, 69] [1, 5, 6] L [(.ptr 0 1 0), .any, (.v (.sl 31 vs0) (.own (.slot 6) 31)), (.v (.sl 24 vs1) .no), (.v (.int .i64 n2) .no), (.v (.int .i64 n3) .no)] [[(1, ⟨24, [(.v (.int .i64 n4) .no), (.v (.int .i64 n5) .no), (.v (.sl 24 vs6) .no)]⟩)]] K = F_least_23 N f vs1 n2 n4 n5 vs6 (fun vs0 n3 => L [(.ptr 0 1 0), .any, (.v (.sl 31 vs0) (.own (.slot 6) 31)), (.v (.sl 24 vs1) .no), (.v (.int .i64 n2) .no), (.v (.int .i64 n3) .no)] [[(1, ⟨24, [(.v (.int .i64 n4) .no), (.v (.int .i64 n5) .no), (.v (.sl 24 vs6) .no)]⟩)]]) (fun a0 => K (.exit 3) [(.ptr 0 1 0), .any, (.v (.sl 31 a0) (.own (.slot 6) 31))] [[(1, ⟨24, [(.v (.int .i64 n4) .no), (.v (.int .i64 n5) .no), (.v (.sl 24 vs6) .no)]⟩)]]) vs0 n3 := by
  kernel_rfl
theorem S_least_23_ok {R : Type} (N : Nat) (f : Int → Int → List V → Option (List V)) (vs1 : List V) (n2 : Int) (n4 : Int) (n5 : Int) (vs6 : List V) (K : Ex → List D → Mem → Option R) : ∀ (t : Nat) (vs0 : List V) (n3 : Int),
    loopK (fun st K => codeK (cx_least N f) (loopN Tryd.f48 1) st K) 102 [1, 5, 6, 67, 68, 69] [1, 5, 6] t [(.ptr 0 1 0), .any, (.v (.sl 31 vs0) (.own (.slot 6) 31)), (.v (.sl 24 vs1) .no), (.v (.int .i64 n2) .no), (.v (.int .i64 n3) .no)] [[(1, ⟨24, [(.v (.int .i64 n4) .no), (.v (.int .i64 n5) .no), (.v (.sl 24 vs6) .no)]⟩)]] K = S_least_23 N f vs1 n2 n4 n5 vs6 t vs0 n3 (fun a0 => K (.exit 3) [(.ptr 0 1 0), .any, (.v (.sl 31 a0) (.own (.slot 6) 31))] [[(1, ⟨24, [(.v (.int .i64 n4) .no), (.v (.int .i64 n5) .no), (.v (.sl 24 vs6) .no)]⟩)]])
  | 0, vs0, n3 => rfl
  | t + 1, vs0, n3 => (F_least_23_ok N f vs1 n2 n4 n5 vs6 vs0 n3 _ K).trans (congrArg (fun L => F_least_23 N f vs1 n2 n4 n5 vs6 L (fun a0 => K (.exit 3) [(.ptr 0 1 0), .any, (.v (.sl 31 a0) (.own (.slot 6) 31))] [[(1, ⟨24, [(.v (.int .i64 n4) .no), (.v (.int .i64 n5) .no), (.v (.sl 24 vs6) .no)]⟩)]]) vs0 n3) (funext fun vs0 => funext fun n3 => S_least_23_ok N f vs1 n2 n4 n5 vs6 K t vs0 n3))
theorem B_least_ok (N : Nat) (f : Int → Int → List V → Option (List V)) (x0 : Int) (x1 : Int) (x2 : List V) : bodyK (cx_least N f) Tryd.f48 [.agg [.v (.int .i64 x0) .no, .v (.int .i64 x1) .no, .v (.sl 24 x2) .no]] [] r_least = B_least N f x0 x1 x2 := by
  kernel_rfl
theorem go_least : Goes Tryd.prog 48 := goes_of Tryd.func48 (by kernel_rfl) (c := bodyOf Tryd.f48) (by kernel_rfl)
theorem eo_least (s : Int → Int → List V → Option (List V)) (hs : ∀ (x0 : Int) (x1 : Int) (x2 : List V) (r0 : List V), s x0 x1 x2 = some r0 → PureRet Tryd.prog T 48 [.agg [.v (.int .i64 x0) .no, .v (.int .i64 x1) .no, .v (.sl 24 x2) .no]] [.v (.sl 31 r0) .no]) : EntOK Tryd.prog T ⟨48, e_least s⟩ := by
  refine ⟨go_least, fun R ds K r h => ?_, fun R ds K => ?_⟩
  · simp only [e_least] at h
    split at h
    · obtain ⟨r0, h1, h2⟩ := bnd1_some h
      exact ⟨_, h2, hs _ _ _ _ h1⟩
    · cases h
  · simp only [e_least]
    split
    · rw [bnd1_b]; rfl
    · rfl
theorem co_least (N : Nat) (f : Int → Int → List V → Option (List V)) (hf : ∀ (x0 : Int) (x1 : Int) (x2 : List V) (r0 : List V), f x0 x1 x2 = some r0 → PureRet Tryd.prog T 48 [.agg [.v (.int .i64 x0) .no, .v (.int .i64 x1) .no, .v (.sl 24 x2) .no]] [.v (.sl 31 r0) .no]) : CxOK Tryd.prog (cx_least N f) :=
  cxOK_of2 (es := [⟨48, e_least f⟩, ⟨74, e_join (s_join N)⟩, ⟨75, e_ContainsS (s_ContainsS N)⟩]) (me := []) (ms := []) T_ok ⟨eo_least f hf, eo_join _ (p_join N), eo_ContainsS _ (p_ContainsS N), trivial⟩ trivial trivial rfl (fun _ _ _ _ => rfl) (fun _ _ _ _ _ _ => rfl) rfl
theorem lk_least_15 (N : Nat) (f : Int → Int → List V → Option (List V)) : LoopOK (cx_least N f) 102 (loopN Tryd.f48 0) := by
  refine loopOK_of (rid := 15) (by kernel_rfl) rfl rfl fun R ds m K r h => ?_
  have h : l_least_15 N f ds m K = some r := h
  unfold l_least_15 at h
  split at h
  · exact ⟨N, Eq.trans (S_least_15_ok ..) h⟩
  · cases h
theorem lk_least_23 (N : Nat) (f : Int → Int → List V → Option (List V)) : LoopOK (cx_least N f) 102 (loopN Tryd.f48 1) := by
  refine loopOK_of (rid := 23) (by kernel_rfl) rfl rfl fun R ds m K r h => ?_
  have h : l_least_23 N f ds m K = some r := h
  unfold l_least_23 at h
  split at h
  · exact ⟨N, Eq.trans (S_least_23_ok ..) h⟩
  · cases h
theorem lk_least_27 (N : Nat) (f : Int → Int → List V → Option (List V)) : LoopOK (cx_least N f) 102 (loopN Tryd.f48 2) := by
  refine loopOK_of (rid := 27) (by kernel_rfl) rfl rfl fun R ds m K r h => ?_
  have h : l_least_27 N f ds m K = some r := h
  unfold l_least_27 at h
  split at h
  · exact ⟨N, Eq.trans (S_least_27_ok ..) h⟩
  · cases h
theorem lk_least_30 (N : Nat) (f : Int → Int → List V → Option (List V)) : LoopOK (cx_least N f) 102 (loopN Tryd.f48 3) := by
  refine loopOK_of (rid := 30) (by kernel_rfl) rfl rfl fun R ds m K r h => ?_
  have h : l_least_30 N f ds m K = some r := h
  unfold l_least_30 at h
  split at h
  · exact ⟨N, Eq.trans (S_least_30_ok ..) h⟩
  · cases h
theorem lo_least (N : Nat) (f : Int → Int → List V → Option (List V)) : LoopsOK (cx_least N f) Tryd.f48.ntmps (bodyOf Tryd.f48) :=
  loopsOK_of (k := 4) (by kernel_rfl) ⟨⟨⟨⟨trivial, lk_least_15 N f⟩, lk_least_23 N f⟩, lk_least_27 N f⟩, lk_least_30 N f⟩
theorem p_least (N : Nat) : ∀ (M : Nat) (x0 : Int) (x1 : Int) (x2 : List V) (r0 : List V), s_least N M x0 x1 x2 = some r0 → PureRet Tryd.prog T 48 [.agg [.v (.int .i64 x0) .no, .v (.int .i64 x1) .no, .v (.sl 24 x2) .no]] [.v (.sl 31 r0) .no]
  | 0, _, _, _, _, h => by cases h
  | M + 1, x0, x1, x2, r0, h => pure_of (cx := cx_least N (s_least N M)) (by kernel_rfl) (co_least N (s_least N M) (p_least N M)) Tryd.func48 (by kernel_rfl) (by kernel_rfl) (lo_least N (s_least N M)) rfl rfl rfl (rf := r_least) ((B_least_ok N (s_least N M) x0 x1 x2).trans h) (fun rs' m h => by
    unfold r_least at h
    split at h
    · cases h; exact ⟨rfl, rfl⟩
    · cases h)
noncomputable def e_Implies1 {R : Type} (s : Int → Int → Int → Int → Int → Int → List V → Option (Bool)) (dst : Nat) (ds : List D) (m : Mem) (K : List D → Mem → Option R) : Option R :=
  match ds with
  | [.agg [.v (.int .i64 x0) .no, .v (.int .i64 x1) .no, .v (.int .i64 x2) .no, .v (.int .i64 x3) .no], .ptr (kv0 + 1) sv0 0] => viewK [(kv0, sv0)] m fun Bs => (match Bs with
    | [⟨24, [.v (.int .i64 y0) .no, .v (.int .i64 y1) .no, .v (.sl 24 y2) .no]⟩] => bnd1 (s x0 x1 x2 x3 y0 y1 y2) fun r0 => putAllK [(kv0, sv0)] [⟨24, [.v (.int .i64 y0) .no, .v (.int .i64 y1) .no, .v (.sl 24 y2) .no]⟩] m fun m' => K [.v (.bool r0) .no] m'
    | _ => none)
  | _ => none
noncomputable def r_Implies1 {α : Type} (K : Bool → Int → Int → List V → Option α) (rs : List D) (m : Mem) : Option α :=
  match rs, m with
  | [.v (.bool r0) _], [_, [(0, ⟨24, [.v (.int .i64 z0) .no, .v (.int .i64 z1) .no, .v (.sl 24 z2) .no]⟩)]] => K r0 z0 z1 z2
  | _, _ => none
noncomputable def C_Implies1 {R : Type} (N : Nat) (x0 : Int) (x1 : Int) (x2 : Int) (x3 : Int) (y0 : Int) (y1 : Int) (y2 : List V) (K0 : Bool → Option R) : Option R :=
  bnd1 (s_asat N N y0 y1 y2 x0 x1 x2 x3) fun b0 => K0 !b0
noncomputable def s_Implies1 (N : Nat) (x0 : Int) (x1 : Int) (x2 : Int) (x3 : Int) (y0 : Int) (y1 : Int) (y2 : List V) : Option (Bool) :=
  C_Implies1 N x0 x1 x2 x3 y0 y1 y2 (fun r0 => some r0)
noncomputable def cx_Implies1 (N : Nat) : Cx := { T := T, isPure := tabP [⟨44, e_asat (s_asat N N)⟩], pureK := fun g ds K => tabK [⟨44, e_asat (s_asat N N)⟩] g ds K, memK := fun g dst ds m K => tabMK [] g dst ds m K, meth := tabM [], keep := fun _ => [], keepX := fun _ => [], loopT := fun _ _ _ _ => none, jumps := 9 }
theorem C_Implies1_ok {R : Type} (N : Nat) (x0 : Int) (x1 : Int) (x2 : Int) (x3 : Int) (y0 : Int) (y1 : Int) (y2 : List V) (K : Bool → Int → Int → List V → Option R) : bodyK (cx_Implies1 N) Tryd.f49 [.agg [.v (.int .i64 x0) .no, .v (.int .i64 x1) .no, .v (.int .i64 x2) .no, .v (.int .i64 x3) .no], .ptr 1 0 0] [frOf 0 [⟨24, [.v (.int .i64 y0) .no, .v (.int .i64 y1) .no, .v (.sl 24 y2) .no]⟩]] (r_Implies1 K) = C_Implies1 N x0 x1 x2 x3 y0 y1 y2 (fun r0 => K r0 y0 y1 y2) := by
  kernel_rfl
theorem go_Implies1 : Goes Tryd.prog 49 := goes_of Tryd.func49 (by kernel_rfl) (c := bodyOf Tryd.f49) (by kernel_rfl)
theorem eo_Implies1 (s : Int → Int → Int → Int → Int → Int → List V → Option (Bool)) (hs : ∀ (x0 : Int) (x1 : Int) (x2 : Int) (x3 : Int) (y0 : Int) (y1 : Int) (y2 : List V) (r0 : Bool), s x0 x1 x2 x3 y0 y1 y2 = some r0 → ViewRet Tryd.prog T 49 [.agg [.v (.int .i64 x0) .no, .v (.int .i64 x1) .no, .v (.int .i64 x2) .no, .v (.int .i64 x3) .no], .ptr 1 0 0] [⟨24, [.v (.int .i64 y0) .no, .v (.int .i64 y1) .no, .v (.sl 24 y2) .no]⟩] [.v (.bool r0) .no] [⟨24, [.v (.int .i64 y0) .no, .v (.int .i64 y1) .no, .v (.sl 24 y2) .no]⟩]) : MEntOK Tryd.prog T ⟨49, e_Implies1 s⟩ := by
  refine ⟨go_Implies1, fun R dst ds m K r h => ?_⟩
  simp only [e_Implies1] at h
  split at h
  · obtain ⟨Bs, a1, a2, a3, h⟩ := viewK_some h
    split at h
    · obtain ⟨r0, h1, h2⟩ := bnd1_some h
      rw [putAllK_eq] at h2
      exact ⟨_, _, h2, hs _ _ _ _ _ _ _ _ h1 _ _ m dst a1 a2 a3 ⟨aren_agg ⟨aren_v _, aren_v _, aren_v _, aren_v _, trivial⟩, aren_ptr _ rfl, trivial⟩⟩
    · cases h
  · cases h
theorem co_Implies1 (N : Nat) : CxOK Tryd.prog (cx_Implies1 N) :=
  cxOK_of2 (es := [⟨44, e_asat (s_asat N N)⟩]) (me := []) (ms := []) T_ok ⟨eo_asat _ (p_asat N N), trivial⟩ trivial trivial rfl (fun _ _ _ _ => rfl) (fun _ _ _ _ _ _ => rfl) rfl
theorem lo_Implies1 (N : Nat) : LoopsOK (cx_Implies1 N) Tryd.f49.ntmps (bodyOf Tryd.f49) :=
  loopsOK_of (k := 0) (by kernel_rfl) trivial
open Classical in
theorem p_Implies1 (N : Nat) (x0 : Int) (x1 : Int) (x2 : Int) (x3 : Int) (y0 : Int) (y1 : Int) (y2 : List V) (r0 : Bool) (h : s_Implies1 N x0 x1 x2 x3 y0 y1 y2 = some r0) : ViewRet Tryd.prog T 49 [.agg [.v (.int .i64 x0) .no, .v (.int .i64 x1) .no, .v (.int .i64 x2) .no, .v (.int .i64 x3) .no], .ptr 1 0 0] [⟨24, [.v (.int .i64 y0) .no, .v (.int .i64 y1) .no, .v (.sl 24 y2) .no]⟩] [.v (.bool r0) .no] [⟨24, [.v (.int .i64 y0) .no, .v (.int .i64 y1) .no, .v (.sl 24 y2) .no]⟩] := by
  refine view_of (Bs := [⟨24, [.v (.int .i64 y0) .no, .v (.int .i64 y1) .no, .v (.sl 24 y2) .no]⟩]) (Bs' := [⟨24, [.v (.int .i64 y0) .no, .v (.int .i64 y1) .no, .v (.sl 24 y2) .no]⟩]) (cx := cx_Implies1 N) (by kernel_rfl) (co_Implies1 N) Tryd.func49 (by kernel_rfl) (by kernel_rfl) (lo_Implies1 N) rfl rfl rfl rfl (rf := r_Implies1 (fun r0' z'0 z'1 z'2 => if z'0 = y0 ∧ z'1 = y1 ∧ z'2 = y2 then some r0' else none)) (r := r0) ?_ ?_
  · exact (C_Implies1_ok N x0 x1 x2 x3 y0 y1 y2 _).trans ((congrArg (fun K => C_Implies1 N x0 x1 x2 x3 y0 y1 y2 K) (funext fun r0' => if_pos ⟨rfl, rfl, rfl⟩)).trans h)
  · intro rs' m' hx
    unfold r_Implies1 at hx
    split at hx
    · dsimp only at hx
      split at hx
      · rename_i hk
        obtain ⟨rfl, rfl, rfl⟩ := hk
        cases hx; exact ⟨rfl, rfl, _, rfl⟩
      · cases hx
    · cases hx
noncomputable def e_IndexFuncP {R : Type} (s : List V → Int → Int → List V → Option (Int)) (dst : Nat) (ds : List D) (m : Mem) (K : List D → Mem → Option R) : Option R :=
  match ds with
  | [.v (.sl 31 x0) .no, .clos 49 [.ptr (kv0 + 1) sv0 0]] => viewK [(kv0, sv0)] m fun Bs => (match Bs with
    | [⟨24, [.v (.int .i64 y0) .no, .v (.int .i64 y1) .no, .v (.sl 24 y2) .no]⟩] => bnd1 (s x0 y0 y1 y2) fun r0 => putAllK [(kv0, sv0)] [⟨24, [.v (.int .i64 y0) .no, .v (.int .i64 y1) .no, .v (.sl 24 y2) .no]⟩] m fun m' => K [.v (.int .i64 r0) .no] m'
    | _ => none)
  | _ => none
noncomputable def r_IndexFuncP {α : Type} (K : Int → Int → Int → List V → Option α) (rs : List D) (m : Mem) : Option α :=
  match rs, m with
  | [.v (.int .i64 r0) _], [_, [(0, ⟨24, [.v (.int .i64 z0) .no, .v (.int .i64 z1) .no, .v (.sl 24 z2) .no]⟩)]] => K r0 z0 z1 z2
  | _, _ => none
noncomputable def F_IndexFuncP_2 {R : Type} (N : Nat) (vs0 : List V) (n1 : Int) (n3 : Int) (n4 : Int) (vs5 : List V) (Lq : Int → Option R) (K0 : Int → Option R) (K1 : Option R) (n2 : Int) : Option R :=
  br (decide (n2 < n1))
  (br (decide (0 ≤ n2) && decide (n2 < (↑vs0.length : Int)))
    (at? vs0 n2.toNat fun x0 =>
      x0.unAgg fun l1 =>
        unCons l1 fun x2 l3 =>
          V.unInt IntKind.i64 x2 fun n4_1 =>
            unCons l3 fun x5 l6 =>
              V.unInt IntKind.i64 x5 fun n7 =>
                unCons l6 fun x8 l9 =>
                  V.unInt IntKind.i64 x8 fun n10 => unCons l9 fun x11 l12 => V.unInt IntKind.i64 x11 fun n13 => unNil l12 (bnd1 (s_Implies1 N n4_1 n7 n10 n13 n3 n4 vs5) fun b14 => br b14 (K0 n2) (Lq (IntKind.i64.wrap (n2 + 1)))))
    none)
  K1
noncomputable def S_IndexFuncP_2 {R : Type} (N : Nat) (vs0 : List V) (n1 : Int) (n3 : Int) (n4 : Int) (vs5 : List V) : Nat → Int → (Int → Option R) → (Option R) → Option R
  | 0, _, _, _ => none
  | t + 1, n2, K0, K1 => F_IndexFuncP_2 N vs0 n1 n3 n4 vs5 (fun n2 => S_IndexFuncP_2 N vs0 n1 n3 n4 vs5 t n2 K0 K1) K0 K1 n2
noncomputable def l_IndexFuncP_2 {R : Type} (N : Nat) (ds : List D) (m : Mem) (K : Ex → List D → Mem → Option R) : Option R :=
  match ds, m with
  | [(.v (.sl 31 vs0) .no), (.clos 49 [(.ptr 1 0 0)]), (.v (.int .i64 n1) .no), (.v (.int .i64 n2) .no)], [[], [(0, ⟨24, [(.v (.int .i64 n3) .no), (.v (.int .i64 n4) .no), (.v (.sl 24 vs5) .no)]⟩)]] => S_IndexFuncP_2 N vs0 n1 n3 n4 vs5 N n2 (fun a0 => K .ret [(.v (.int .i64 a0) .no)] [[], [(0, ⟨24, [(.v (.int .i64 n3) .no), (.v (.int .i64 n4) .no), (.v (.sl 24 vs5) .no)]⟩)]]) (K (.exit 0) [.any] [[], [(0, ⟨24, [(.v (.int .i64 n3) .no), (.v (.int .i64 n4) .no), (.v (.sl 24 vs5) .no)]⟩)]])
  | _, _ => none
noncomputable def C_IndexFuncP {R : Type} (N : Nat) (x0 : List V) (y0 : Int) (y1 : Int) (y2 : List V) (K0 : Int → Option R) : Option R :=
  S_IndexFuncP_2 N x0 (↑x0.length : Int) y0 y1 y2 N 0 (fun n0 => K0 n0) (K0 (-1))
noncomputable def s_IndexFuncP (N : Nat) (x0 : List V) (y0 : Int) (y1 : Int) (y2 : List V) : Option (Int) :=
  C_IndexFuncP N x0 y0 y1 y2 (fun r0 => some r0)
noncomputable def cx_IndexFuncP (N : Nat) : Cx := { T := T, isPure := tabP [], pureK := fun g ds K => tabK [] g ds K, memK := fun g dst ds m K => tabMK [⟨49, e_Implies1 (s_Implies1 N)⟩] g dst ds m K, meth := tabM [], keep := fun r => match r with | 2 => [0, 1, 7, 8] | _ => [], keepX := fun r => match r with | 2 => [4] | _ => [], loopT := fun r ds m K => match r with | 2 => l_IndexFuncP_2 N ds m K | _ => none, jumps := 9 }
theorem F_IndexFuncP_2_ok {R : Type} (N : Nat) (vs0 : List V) (n1 : Int) (n3 : Int) (n4 : Int) (vs5 : List V) (n2 : Int) (L : List D → Mem → Option R) (K : Ex → List D → Mem → Option R) :
    roundK (fun st K => codeK (cx_IndexFuncP N) (loopN Tryd.f73 0) st K) 19 [0, 1, 7, 8] [4] L [(.v (.sl 31 vs0) .no), (.clos 49 [(.ptr 1 0 0)]), (.v (.int .i64 n1) .no), (.v (.int .i64 n2) .no)] [[], [(0, ⟨24, [(.v (.int .i64 n3) .no), (.v (.int .i64 n4) .no), (.v (.sl 24 vs5) .no)]⟩)]] K = F_IndexFuncP_2 N vs0 n1 n3 n4 vs5 (fun n2 => L [(.v (.sl 31 vs0) .no), (.clos 49 [(.ptr 1 0 0)]), (.v (.int .i64 n1) .no), (.v (.int .i64 n2) .no)] [[], [(0, ⟨24, [(.v (.int .i64 n3) .no), (.v (.int .i64 n4) .no), (.v (.sl 24 vs5) .no)]⟩)]]) (fun a0 => K .ret [(.v (.int .i64 a0) .no)] [[], [(0, ⟨24, [(.v (.int .i64 n3) .no), (.v (.int .i64 n4) .no), (.v (.sl 24 vs5) .no)]⟩)]]) (K (.exit 0) [.any] [[], [(0, ⟨24, [(.v (.int .i64 n3) .no), (.v (.int .i64 n4) .no), (.v (.sl 24 vs5) .no)]⟩)]]) n2 := by
  kernel_rfl
theorem S_IndexFuncP_2_ok {R : Type} (N : Nat) (vs0 : List V) (n1 : Int) (n3 : Int) (n4 : Int) (vs5 : List V) (K : Ex → List D → Mem → Option R) : ∀ (t : Nat) (n2 : Int),
    loopK (fun st K => codeK (cx_IndexFuncP N) (loopN Tryd.f73 0) st K) 19 [0, 1, 7, 8] [4] t [(.v (.sl 31 vs0) .no), (.clos 49 [(.ptr 1 0 0)]), (.v (.int .i64 n1) .no), (.v (.int .i64 n2) .no)] [[], [(0, ⟨24, [(.v (.int .i64 n3) .no), (.v (.int .i64 n4) .no), (.v (.sl 24 vs5) .no)]⟩)]] K = S_IndexFuncP_2 N vs0 n1 n3 n4 vs5 t n2 (fun a0 => K .ret [(.v (.int .i64 a0) .no)] [[], [(0, ⟨24, [(.v (.int .i64 n3) .no), (.v (.int .i64 n4) .no), (.v (.sl 24 vs5) .no)]⟩)]]) (K (.exit 0) [.any] [[], [(0, ⟨24, [(.v (.int .i64 n3) .no), (.v (.int .i64 n4) .no), (.v (.sl 24 vs5) .no)]⟩)]])
  | 0, n2 => rfl
  | t + 1, n2 => (F_IndexFuncP_2_ok N vs0 n1 n3 n4 vs5 n2 _ K).trans (congrArg (fun L => F_IndexFuncP_2 N vs0 n1 n3 n4 vs5 L (fun a0 => K .ret [(.v (.int .i64 a0) .no)] [[], [(0, ⟨24, [(.v (.int .i64 n3) .no), (.v (.int .i64 n4) .no), (.v (.sl 24 vs5) .no)]⟩)]]) (K (.exit 0) [.any] [[], [(0, ⟨24, [(.v (.int .i64 n3) .no), (.v (.int .i64 n4) .no), (.v (.sl 24 vs5) .no)]⟩)]]) n2) (funext fun n2 => S_IndexFuncP_2_ok N vs0 n1 n3 n4 vs5 K t n2))
theorem C_IndexFuncP_ok {R : Type} (N : Nat) (x0 : List V) (y0 : Int) (y1 : Int) (y2 : List V) (K : Int → Int → Int → List V → Option R) : bodyK (cx_IndexFuncP N) Tryd.f73 [.v (.sl 31 x0) .no, .clos 49 [.ptr 1 0 0]] [frOf 0 [⟨24, [.v (.int .i64 y0) .no, .v (.int .i64 y1) .no, .v (.sl 24 y2) .no]⟩]] (r_IndexFuncP K) = C_IndexFuncP N x0 y0 y1 y2 (fun r0 => K r0 y0 y1 y2) := by
  kernel_rfl
theorem go_IndexFuncP : Goes Tryd.prog 73 := goes_of Tryd.func73 (by kernel_rfl) (c := bodyOf Tryd.f73) (by kernel_rfl)
theorem eo_IndexFuncP (s : List V → Int → Int → List V → Option (Int)) (hs : ∀ (x0 : List V) (y0 : Int) (y1 : Int) (y2 : List V) (r0 : Int), s x0 y0 y1 y2 = some r0 → ViewRet Tryd.prog T 73 [.v (.sl 31 x0) .no, .clos 49 [.ptr 1 0 0]] [⟨24, [.v (.int .i64 y0) .no, .v (.int .i64 y1) .no, .v (.sl 24 y2) .no]⟩] [.v (.int .i64 r0) .no] [⟨24, [.v (.int .i64 y0) .no, .v (.int .i64 y1) .no, .v (.sl 24 y2) .no]⟩]) : MEntOK Tryd.prog T ⟨73, e_IndexFuncP s⟩ := by
  refine ⟨go_IndexFuncP, fun R dst ds m K r h => ?_⟩
  simp only [e_IndexFuncP] at h
  split at h
  · obtain ⟨Bs, a1, a2, a3, h⟩ := viewK_some h
    split at h
    · obtain ⟨r0, h1, h2⟩ := bnd1_some h
      rw [putAllK_eq] at h2
      exact ⟨_, _, h2, hs _ _ _ _ _ h1 _ _ m dst a1 a2 a3 ⟨aren_v _, aren_clos ⟨aren_ptr _ rfl, trivial⟩, trivial⟩⟩
    · cases h
  · cases h
theorem co_IndexFuncP (N : Nat) : CxOK Tryd.prog (cx_IndexFuncP N) :=
  cxOK_of2 (es := []) (me := [⟨49, e_Implies1 (s_Implies1 N)⟩]) (ms := []) T_ok trivial ⟨eo_Implies1 _ (p_Implies1 N), trivial⟩ trivial rfl (fun _ _ _ _ => rfl) (fun _ _ _ _ _ _ => rfl) rfl
theorem lk_IndexFuncP_2 (N : Nat) : LoopOK (cx_IndexFuncP N) 19 (loopN Tryd.f73 0) := by
  refine loopOK_of (rid := 2) (by kernel_rfl) rfl rfl fun R ds m K r h => ?_
  have h : l_IndexFuncP_2 N ds m K = some r := h
  unfold l_IndexFuncP_2 at h
  split at h
  · exact ⟨N, Eq.trans (S_IndexFuncP_2_ok ..) h⟩
  · cases h
theorem lo_IndexFuncP (N : Nat) : LoopsOK (cx_IndexFuncP N) Tryd.f73.ntmps (bodyOf Tryd.f73) :=
  loopsOK_of (k := 1) (by kernel_rfl) ⟨trivial, lk_IndexFuncP_2 N⟩
open Classical in
theorem p_IndexFuncP (N : Nat) (x0 : List V) (y0 : Int) (y1 : Int) (y2 : List V) (r0 : Int) (h : s_IndexFuncP N x0 y0 y1 y2 = some r0) : ViewRet Tryd.prog T 73 [.v (.sl 31 x0) .no, .clos 49 [.ptr 1 0 0]] [⟨24, [.v (.int .i64 y0) .no, .v (.int .i64 y1) .no, .v (.sl 24 y2) .no]⟩] [.v (.int .i64 r0) .no] [⟨24, [.v (.int .i64 y0) .no, .v (.int .i64 y1) .no, .v (.sl 24 y2) .no]⟩] := by
  refine view_of (Bs := [⟨24, [.v (.int .i64 y0) .no, .v (.int .i64 y1) .no, .v (.sl 24 y2) .no]⟩]) (Bs' := [⟨24, [.v (.int .i64 y0) .no, .v (.int .i64 y1) .no, .v (.sl 24 y2) .no]⟩]) (cx := cx_IndexFuncP N) (by kernel_rfl) (co_IndexFuncP N) Tryd.func73 (by kernel_rfl) (by kernel_rfl) (lo_IndexFuncP N) rfl rfl rfl rfl (rf := r_IndexFuncP (fun r0' z'0 z'1 z'2 => if z'0 = y0 ∧ z'1 = y1 ∧ z'2 = y2 then some r0' else none)) (r := r0) ?_ ?_
  · exact (C_IndexFuncP_ok N x0 y0 y1 y2 _).trans ((congrArg (fun K => C_IndexFuncP N x0 y0 y1 y2 K) (funext fun r0' => if_pos ⟨rfl, rfl, rfl⟩)).trans h)
  · intro rs' m' hx
    unfold r_IndexFuncP at hx
    split at hx
    · dsimp only at hx
      split at hx
      · rename_i hk
        obtain ⟨rfl, rfl, rfl⟩ := hk
        cases hx; exact ⟨rfl, rfl, _, rfl⟩
      · cases hx
    · cases hx
noncomputable def e_ContainsFuncP {R : Type} (s : List V → Int → Int → List V → Option (Bool)) (dst : Nat) (ds : List D) (m : Mem) (K : List D → Mem → Option R) : Option R :=
  match ds with
  | [.v (.sl 31 x0) .no, .clos 49 [.ptr (kv0 + 1) sv0 0]] => viewK [(kv0, sv0)] m fun Bs => (match Bs with
    | [⟨24, [.v (.int .i64 y0) .no, .v (.int .i64 y1) .no, .v (.sl 24 y2) .no]⟩] => bnd1 (s x0 y0 y1 y2) fun r0 => putAllK [(kv0, sv0)] [⟨24, [.v (.int .i64 y0) .no, .v (.int .i64 y1) .no, .v (.sl 24 y2) .no]⟩] m fun m' => K [.v (.bool r0) .no] m'
    | _ => none)
  | _ => none
noncomputable def r_ContainsFuncP {α : Type} (K : Bool → Int → Int → List V → Option α) (rs : List D) (m : Mem) : Option α :=
  match rs, m with
  | [.v (.bool r0) _], [_, [(0, ⟨24, [.v (.int .i64 z0) .no, .v (.int .i64 z1) .no, .v (.sl 24 z2) .no]⟩)]] => K r0 z0 z1 z2
  | _, _ => none
noncomputable def C_ContainsFuncP {R : Type} (N : Nat) (x0 : List V) (y0 : Int) (y1 : Int) (y2 : List V) (K0 : Bool → Option R) : Option R :=
  bnd1 (s_IndexFuncP N x0 y0 y1 y2) fun n0 => K0 (decide (0 ≤ n0))
noncomputable def s_ContainsFuncP (N : Nat) (x0 : List V) (y0 : Int) (y1 : Int) (y2 : List V) : Option (Bool) :=
  C_ContainsFuncP N x0 y0 y1 y2 (fun r0 => some r0)
noncomputable def cx_ContainsFuncP (N : Nat) : Cx := { T := T, isPure := tabP [], pureK := fun g ds K => tabK [] g ds K, memK := fun g dst ds m K => tabMK [⟨73, e_IndexFuncP (s_IndexFuncP N)⟩] g dst ds m K, meth := tabM [], keep := fun _ => [], keepX := fun _ => [], loopT := fun _ _ _ _ => none, jumps := 9 }
theorem C_ContainsFuncP_ok {R : Type} (N : Nat) (x0 : List V) (y0 : Int) (y1 : Int) (y2 : List V) (K : Bool → Int → Int → List V → Option R) : bodyK (cx_ContainsFuncP N) Tryd.f47 [.v (.sl 31 x0) .no, .clos 49 [.ptr 1 0 0]] [frOf 0 [⟨24, [.v (.int .i64 y0) .no, .v (.int .i64 y1) .no, .v (.sl 24 y2) .no]⟩]] (r_ContainsFuncP K) = C_ContainsFuncP N x0 y0 y1 y2 (fun r0 => K r0 y0 y1 y2) := by
  kernel_rfl
theorem go_ContainsFuncP : Goes Tryd.prog 47 := goes_of Tryd.func47 (by kernel_rfl) (c := bodyOf Tryd.f47) (by kernel_rfl)
theorem eo_ContainsFuncP (s : List V → Int → Int → List V → Option (Bool)) (hs : ∀ (x0 : List V) (y0 : Int) (y1 : Int) (y2 : List V) (r0 : Bool), s x0 y0 y1 y2 = some r0 → ViewRet Tryd.prog T 47 [.v (.sl 31 x0) .no, .clos 49 [.ptr 1 0 0]] [⟨24, [.v (.int .i64 y0) .no, .v (.int .i64 y1) .no, .v (.sl 24 y2) .no]⟩] [.v (.bool r0) .no] [⟨24, [.v (.int .i64 y0) .no, .v (.int .i64 y1) .no, .v (.sl 24 y2) .no]⟩]) : MEntOK Tryd.prog T ⟨47, e_ContainsFuncP s⟩ := by
  refine ⟨go_ContainsFuncP, fun R dst ds m K r h => ?_⟩
  simp only [e_ContainsFuncP] at h
  split at h
  · obtain ⟨Bs, a1, a2, a3, h⟩ := viewK_some h
    split at h
    · obtain ⟨r0, h1, h2⟩ := bnd1_some h
      rw [putAllK_eq] at h2
      exact ⟨_, _, h2, hs _ _ _ _ _ h1 _ _ m dst a1 a2 a3 ⟨aren_v _, aren_clos ⟨aren_ptr _ rfl, trivial⟩, trivial⟩⟩
    · cases h
  · cases h
theorem co_ContainsFuncP (N : Nat) : CxOK Tryd.prog (cx_ContainsFuncP N) :=
  cxOK_of2 (es := []) (me := [⟨73, e_IndexFuncP (s_IndexFuncP N)⟩]) (ms := []) T_ok trivial ⟨eo_IndexFuncP _ (p_IndexFuncP N), trivial⟩ trivial rfl (fun _ _ _ _ => rfl) (fun _ _ _ _ _ _ => rfl) rfl
theorem lo_ContainsFuncP (N : Nat) : LoopsOK (cx_ContainsFuncP N) Tryd.f47.ntmps (bodyOf Tryd.f47) :=
  loopsOK_of (k := 0) (by kernel_rfl) trivial
open Classical in
theorem p_ContainsFuncP (N : Nat) (x0 : List V) (y0 : Int) (y1 : Int) (y2 : List V) (r0 : Bool) (h : s_ContainsFuncP N x0 y0 y1 y2 = some r0) : ViewRet Tryd.prog T 47 [.v (.sl 31 x0) .no, .clos 49 [.ptr 1 0 0]] [⟨24, [.v (.int .i64 y0) .no, .v (.int .i64 y1) .no, .v (.sl 24 y2) .no]⟩] [.v (.bool r0) .no] [⟨24, [.v (.int .i64 y0) .no, .v (.int .i64 y1) .no, .v (.sl 24 y2) .no]⟩] := by
  refine view_of (Bs := [⟨24, [.v (.int .i64 y0) .no, .v (.int .i64 y1) .no, .v (.sl 24 y2) .no]⟩]) (Bs' := [⟨24, [.v (.int .i64 y0) .no, .v (.int .i64 y1) .no, .v (.sl 24 y2) .no]⟩]) (cx := cx_ContainsFuncP N) (by kernel_rfl) (co_ContainsFuncP N) Tryd.func47 (by kernel_rfl) (by kernel_rfl) (lo_ContainsFuncP N) rfl rfl rfl rfl (rf := r_ContainsFuncP (fun r0' z'0 z'1 z'2 => if z'0 = y0 ∧ z'1 = y1 ∧ z'2 = y2 then some r0' else none)) (r := r0) ?_ ?_
  · exact (C_ContainsFuncP_ok N x0 y0 y1 y2 _).trans ((congrArg (fun K => C_ContainsFuncP N x0 y0 y1 y2 K) (funext fun r0' => if_pos ⟨rfl, rfl, rfl⟩)).trans h)
  · intro rs' m' hx
    unfold r_ContainsFuncP at hx
    split at hx
    · dsimp only at hx
      split at hx
      · rename_i hk
        obtain ⟨rfl, rfl, rfl⟩ := hk
        cases hx; exact ⟨rfl, rfl, _, rfl⟩
      · cases hx
    · cases hx
noncomputable def e_Implies {R : Type} (s : Int → Int → List V → Int → Int → List V → Option (Bool)) (ds : List D) (K : List D → Option R) : Option R :=
  match ds with
  | [.agg [.v (.int .i64 x0) .no, .v (.int .i64 x1) .no, .v (.sl 24 x2) .no], .agg [.v (.int .i64 x3) .no, .v (.int .i64 x4) .no, .v (.sl 24 x5) .no]] => bnd1 (s x0 x1 x2 x3 x4 x5) fun r0 => K [.v (.bool r0) .no]
  | _ => none
noncomputable def r_Implies (rs : List D) (_ : Mem) : Option (Bool) :=
  match rs with
  | [.v (.bool r0) _] => some (r0)
  | _ => none
noncomputable def s_Implies (N : Nat) (x0 : Int) (x1 : Int) (x2 : List V) (x3 : Int) (x4 : Int) (x5 : List V) : Option (Bool) :=
  bnd1 (s_aCheck N x0 x1 x2) fun n0 =>
  br (!decide (n0 = 0)) (some false) (bnd1 (s_aCheck N x3 x4 x5) fun n1 => br (!decide (n1 = 0)) (some false) (bnd1 (s_least N N x0 x1 x2) fun l2 => bnd1 (s_ContainsFuncP N l2 x3 x4 x5) fun b3 => some !b3))
noncomputable def cx_Implies (N : Nat) : Cx := { T := T, isPure := tabP [⟨17, e_aCheck (s_aCheck N)⟩, ⟨48, e_least (s_least N N)⟩], pureK := fun g ds K => tabK [⟨17, e_aCheck (s_aCheck N)⟩, ⟨48, e_least (s_least N N)⟩] g ds K, memK := fun g dst ds m K => tabMK [⟨47, e_ContainsFuncP (s_ContainsFuncP N)⟩, ⟨49, e_Implies1 (s_Implies1 N)⟩] g dst ds m K, meth := tabM [], keep := fun _ => [], keepX := fun _ => [], loopT := fun _ _ _ _ => none, jumps := 9 }
theorem s_Implies_ok (N : Nat) (x0 : Int) (x1 : Int) (x2 : List V) (x3 : Int) (x4 : Int) (x5 : List V) : bodyK (cx_Implies N) Tryd.f22 [.agg [.v (.int .i64 x0) .no, .v (.int .i64 x1) .no, .v (.sl 24 x2) .no], .agg [.v (.int .i64 x3) .no, .v (.int .i64 x4) .no, .v (.sl 24 x5) .no]] [] r_Implies = s_Implies N x0 x1 x2 x3 x4 x5 := by
  kernel_rfl
theorem go_Implies : Goes Tryd.prog 22 := goes_of Tryd.func22 (by kernel_rfl) (c := bodyOf Tryd.f22) (by kernel_rfl)
theorem eo_Implies (s : Int → Int → List V → Int → Int → List V → Option (Bool)) (hs : ∀ (x0 : Int) (x1 : Int) (x2 : List V) (x3 : Int) (x4 : Int) (x5 : List V) (r0 : Bool), s x0 x1 x2 x3 x4 x5 = some r0 → PureRet Tryd.prog T 22 [.agg [.v (.int .i64 x0) .no, .v (.int .i64 x1) .no, .v (.sl 24 x2) .no], .agg [.v (.int .i64 x3) .no, .v (.int .i64 x4) .no, .v (.sl 24 x5) .no]] [.v (.bool r0) .no]) : EntOK Tryd.prog T ⟨22, e_Implies s⟩ := by
  refine ⟨go_Implies, fun R ds K r h => ?_, fun R ds K => ?_⟩
  · simp only [e_Implies] at h
    split at h
    · obtain ⟨r0, h1, h2⟩ := bnd1_some h
      exact ⟨_, h2, hs _ _ _ _ _ _ _ h1⟩
    · cases h
  · simp only [e_Implies]
    split
    · rw [bnd1_b]; rfl
    · rfl
theorem co_Implies (N : Nat) : CxOK Tryd.prog (cx_Implies N) :=
  cxOK_of2 (es := [⟨17, e_aCheck (s_aCheck N)⟩, ⟨48, e_least (s_least N N)⟩]) (me := [⟨47, e_ContainsFuncP (s_ContainsFuncP N)⟩, ⟨49, e_Implies1 (s_Implies1 N)⟩]) (ms := []) T_ok ⟨eo_aCheck _ (p_aCheck N), eo_least _ (p_least N N), trivial⟩ ⟨eo_ContainsFuncP _ (p_ContainsFuncP N), eo_Implies1 _ (p_Implies1 N), trivial⟩ trivial rfl (fun _ _ _ _ => rfl) (fun _ _ _ _ _ _ => rfl) rfl
theorem lo_Implies (N : Nat) : LoopsOK (cx_Implies N) Tryd.f22.ntmps (bodyOf Tryd.f22) :=
  loopsOK_of (k := 0) (by kernel_rfl) trivial
theorem p_Implies (N : Nat) (x0 : Int) (x1 : Int) (x2 : List V) (x3 : Int) (x4 : Int) (x5 : List V) (r0 : Bool) (h : s_Implies N x0 x1 x2 x3 x4 x5 = some r0) : PureRet Tryd.prog T 22 [.agg [.v (.int .i64 x0) .no, .v (.int .i64 x1) .no, .v (.sl 24 x2) .no], .agg [.v (.int .i64 x3) .no, .v (.int .i64 x4) .no, .v (.sl 24 x5) .no]] [.v (.bool r0) .no] :=
  pure_of (cx := cx_Implies N) (by kernel_rfl) (co_Implies N) Tryd.func22 (by kernel_rfl) (by kernel_rfl) (lo_Implies N) rfl rfl rfl (rf := r_Implies) ((s_Implies_ok N x0 x1 x2 x3 x4 x5).trans h) (fun rs' m h => by
    unfold r_Implies at h
    split at h
    · cases h; exact ⟨rfl, rfl⟩
    · cases h)
noncomputable def e_aencode {R : Type} (s : Int → Int → List V → Option (List UInt8)) (ds : List D) (K : List D → Option R) : Option R :=
  match ds with
  | [.agg [.v (.int .i64 x0) .no, .v (.int .i64 x1) .no, .v (.sl 24 x2) .no]] => bnd1 (s x0 x1 x2) fun r0 => K [.v (.bytes r0) .no]
  | _ => none
noncomputable def r_aencode (rs : List D) (_ : Mem) : Option (List UInt8) :=
  match rs with
  | [.v (.bytes r0) _] => some (r0)
  | _ => none
noncomputable def F_aencode_8 {R : Type} (N : Nat) (f : Int → Int → List V → Option (List UInt8)) (vs1 : List V) (n2 : Int) (n4 : Int) (n5 : Int) (vs6 : List V) (l7 : List UInt8) (b8 : Bool) (b9 : Bool) (n10 : Int) (n11 : Int) (Lq : List UInt8 → Int → Option R) (K0 : List UInt8 → Option R) (l0 : List UInt8) (n3 : Int) : Option R :=
  br (decide (n3 < n2))
  (br (decide (0 ≤ n3) && decide (n3 < (↑vs1.length : Int)))
    (at? vs1 n3.toNat fun x0 =>
      x0.unAgg fun l1 =>
        unCons l1 fun x2 l3 =>
          V.unInt IntKind.i64 x2 fun n4 =>
            unCons l3 fun x5 l6 =>
              V.unInt IntKind.i64 x5 fun n7 =>
                unCons l6 fun x8 l9 => V.unSl 24 x8 fun l10 => unNil l9 (bnd1 (f n4 n7 l10) fun l11 => br (decide ((l0.length + l11.length) * 1 ≤ 140737488355328)) (Lq (l0 ++ l11) (IntKind.i64.wrap (n3 + 1))) none))
    none)
  (K0 l0)
noncomputable def S_aencode_8 {R : Type} (N : Nat) (f : Int → Int → List V → Option (List UInt8)) (vs1 : List V) (n2 : Int) (n4 : Int) (n5 : Int) (vs6 : List V) (l7 : List UInt8) (b8 : Bool) (b9 : Bool) (n10 : Int) (n11 : Int) : Nat → List UInt8 → Int → (List UInt8 → Option R) → Option R
  | 0, _, _, _ => none
  | t + 1, l0, n3, K0 => F_aencode_8 N f vs1 n2 n4 n5 vs6 l7 b8 b9 n10 n11 (fun l0 n3 => S_aencode_8 N f vs1 n2 n4 n5 vs6 l7 b8 b9 n10 n11 t l0 n3 K0) K0 l0 n3
noncomputable def l_aencode_8 {R : Type} (N : Nat) (f : Int → Int → List V → Option (List UInt8)) (ds : List D) (m : Mem) (K : Ex → List D → Mem → Option R) : Option R :=
  match ds, m with
  | [(.ptr 0 1 0), (.ptr 0 3 0), (.v (.bytes l0) (.own (.slot 4) 5)), (.v (.sl 24 vs1) .no), (.v (.int .i64 n2) .no), (.v (.int .i64 n3) .no)], [[(1, ⟨24, [(.v (.int .i64 n4) .no), (.v (.int .i64 n5) .no), (.v (.sl 24 vs6) .no)]⟩), (3, ⟨79, [(.v (.str l7) .no), (.v (.bool b8) .no), (.v (.bool b9) .no), (.v (.int .i64 n10) .no), (.v (.int .i64 n11) .no)]⟩)]] => S_aencode_8 N f vs1 n2 n4 n5 vs6 l7 b8 b9 n10 n11 N l0 n3 (fun a0 => K (.exit 0) [(.ptr 0 1 0), (.ptr 0 3 0), (.v (.bytes a0) (.own (.slot 4) 5))] [[(1, ⟨24, [(.v (.int .i64 n4) .no), (.v (.int .i64 n5) .no), (.v (.sl 24 vs6) .no)]⟩), (3, ⟨79, [(.v (.str l7) .no), (.v (.bool b8) .no), (.v (.bool b9) .no), (.v (.int .i64 n10) .no), (.v (.int .i64 n11) .no)]⟩)]])
  | _, _ => none
noncomputable def B_aencode (N : Nat) (f : Int → Int → List V → Option (List UInt8)) (x0 : Int) (x1 : Int) (x2 : List V) : Option (List UInt8) :=
  bnd1 (s_forms N) fun x0_1 =>
  br (decide (x0 = 0)) (S_aencode_8 N f x2 (↑x2.length : Int) x0 x1 x2 ([110, 101, 118, 101, 114] : List UInt8) false false 0 0 N [UInt8.ofNat (IntKind.u8.wrap x0).toNat] 0 fun l1 => some l1)
    (br (decide (x0 = 1)) (S_aencode_8 N f x2 (↑x2.length : Int) x0 x1 x2 ([97, 108, 119, 97, 121, 115] : List UInt8) false false 0 0 N [UInt8.ofNat (IntKind.u8.wrap x0).toNat] 0 fun l2 => some l2)
      (br (decide (x0 = 2)) (S_aencode_8 N f x2 (↑x2.length : Int) x0 x1 x2 ([112, 105, 110] : List UInt8) true false 1 8 N [UInt8.ofNat (IntKind.u8.wrap x0).toNat, UInt8.ofNat (IntKind.u8.wrap x1).toNat] 0 fun l3 => some l3)
        (br (decide (x0 = 3)) (S_aencode_8 N f x2 (↑x2.length : Int) x0 x1 x2 ([107, 101, 121] : List UInt8) true false 1 8 N [UInt8.ofNat (IntKind.u8.wrap x0).toNat, UInt8.ofNat (IntKind.u8.wrap x1).toNat] 0 fun l4 => some l4)
          (br (decide (x0 = 4)) (S_aencode_8 N f x2 (↑x2.length : Int) x0 x1 x2 ([115, 116, 97, 116, 101] : List UInt8) true false 1 5 N [UInt8.ofNat (IntKind.u8.wrap x0).toNat, UInt8.ofNat (IntKind.u8.wrap x1).toNat] 0 fun l5 => some l5)
            (br (decide (x0 = 5)) (S_aencode_8 N f x2 (↑x2.length : Int) x0 x1 x2 ([108, 101, 118, 101, 108] : List UInt8) true false 1 51 N [UInt8.ofNat (IntKind.u8.wrap x0).toNat, UInt8.ofNat (IntKind.u8.wrap x1).toNat] 0 fun l6 => some l6)
              (br (decide (x0 = 6)) (S_aencode_8 N f x2 (↑x2.length : Int) x0 x1 x2 ([97, 110, 100] : List UInt8) false true 0 0 N [UInt8.ofNat (IntKind.u8.wrap x0).toNat, UInt8.ofNat (IntKind.u8.wrap (↑x2.length : Int)).toNat] 0 fun l7 => some l7)
                (br (decide (x0 = 7)) (S_aencode_8 N f x2 (↑x2.length : Int) x0 x1 x2 ([111, 114] : List UInt8) false true 0 0 N [UInt8.ofNat (IntKind.u8.wrap x0).toNat, UInt8.ofNat (IntKind.u8.wrap (↑x2.length : Int)).toNat] 0 fun l8 => some l8)
                  none)))))))
noncomputable def s_aencode (N : Nat) : Nat → Int → Int → List V → Option (List UInt8)
  | 0, _, _, _ => none
  | n + 1, x0, x1, x2 => B_aencode N (s_aencode N n) x0 x1 x2
noncomputable def cx_aencode (N : Nat) (f : Int → Int → List V → Option (List UInt8)) : Cx := { T := T, isPure := tabP [⟨51, e_aencode f⟩, ⟨67, e_forms (s_forms N)⟩], pureK := fun g ds K => tabK [⟨51, e_aencode f⟩, ⟨67, e_forms (s_forms N)⟩] g ds K, memK := fun g dst ds m K => tabMK [] g dst ds m K, meth := tabM [], keep := fun r => match r with | 8 => [1, 3, 4, 33, 34, 35] | _ => [], keepX := fun r => match r with | 8 => [1, 3, 4] | _ => [], loopT := fun r ds m K => match r with | 8 => l_aencode_8 N f ds m K | _ => none, jumps := 9 }
theorem F_aencode_8_ok {R : Type} (N : Nat) (f : Int → Int → List V → Option (List UInt8)) (vs1 : List V) (n2 : Int) (n4 : Int) (n5 : Int) (vs6 : List V) (l7 : List UInt8) (b8 : Bool) (b9 : Bool) (n10 : Int) (n11 : Int) (l0 : List UInt8) (n3 : Int) (L : List D → Mem → Option R) (K : Ex → List D → Mem → Option R) :
    roundK (fun st K => codeK (cx_aencode N f) (loopN Tryd.f51 0) st K) 45 [1, 3, 4, 33, 34, 35] [1, 3, 4] L [(.ptr 0 1 0), (.ptr 0 3 0), (.v (.bytes l0) (.own (.slot 4) 5)), (.v (.sl 24 vs1) .no), (.v (.int .i64 n2) .no), (.v (.int .i64 n3) .no)] [[(1, ⟨24, [(.v (.int .i64 n4) .no), (.v (.int .i64 n5) .no), (.v (.sl 24 vs6) .no)]⟩), (3, ⟨79, [(.v (.str l7) .no), (.v (.bool b8) .no), (.v (.bool b9) .no), (.v (.int .i64 n10) .no), (.v (.int .i64 n11) .no)]⟩)]] K = F_aencode_8 N f vs1 n2 n4 n5 vs6 l7 b8 b9 n10 n11 (fun l0 n3 => L [(.ptr 0 1 0), (.ptr 0 3 0), (.v (.bytes l0) (.own (.slot 4) 5)), (.v (.sl 24 vs1) .no), (.v (.int .i64 n2) .no), (.v (.int .i64 n3) .no)] [[(1, ⟨24, [(.v (.int .i64 n4) .no), (.v (.int .i64 n5) .no), (.v (.sl 24 vs6) .no)]⟩), (3, ⟨79, [(.v (.str l7) .no), (.v (.bool b8) .no), (.v (.bool b9) .no), (.v (.int .i64 n10) .no), (.v (.int .i64 n11) .no)]⟩)]]) (fun a0 => K (.exit 0) [(.ptr 0 1 0), (.ptr 0 3 0), (.v (.bytes a0) (.own (.slot 4) 5))] [[(1, ⟨24, [(.v (.int .i64 n4) .no), (.v (.int .i64 n5) .no), (.v (.sl 24 vs6) .no)]⟩), (3, ⟨79, [(.v (.str l7) .no), (.v (.bool b8) .no), (.v (.bool b9) .no), (.v (.int .i64 n10) .no), (.v (.int .i64 n11) .no)]⟩)]]) l0 n3 := by
  kernel_rfl
theorem S_aencode_8_ok {R : Type} (N : Nat) (f : Int → Int → List V → Option (List UInt8)) (vs1 : List V) (n2 : Int) (n4 : Int) (n5 : Int) (vs6 : List V) (l7 : List UInt8) (b8 : Bool) (b9 : Bool) (n10 : Int) (n11 : Int) (K : Ex → List D → Mem → Option R) : ∀ (t : Nat) (l0 : List UInt8) (n3 : Int),
    loopK (fun st K => codeK (cx_aencode N f) (loopN Tryd.f51 0) st K) 45 [1, 3, 4, 33, 34, 35] [1, 3, 4] t [(.ptr 0 1 0), (.ptr 0 3 0), (.v (.bytes l0) (.own (.slot 4) 5)), (.v (.sl 24 vs1) .no), (.v (.int .i64 n2) .no), (.v (.int .i64 n3) .no)] [[(1, ⟨24, [(.v (.int .i64 n4) .no), (.v (.int .i64 n5) .no), (.v (.sl 24 vs6) .no)]⟩), (3, ⟨79, [(.v (.str l7) .no), (.v (.bool b8) .no), (.v (.bool b9) .no), (.v (.int .i64 n10) .no), (.v (.int .i64 n11) .no)]⟩)]] K = S_aencode_8 N f vs1 n2 n4 n5 vs6 l7 b8 b9 n10 n11 t l0 n3 (fun a0 => K (.exit 0) [(.ptr 0 1 0), (.ptr 0 3 0), (.v (.bytes a0) (.own (.slot 4) 5))] [[(1, ⟨24, [(.v (.int .i64 n4) .no), (.v (.int .i64 n5) .no), (.v (.sl 24 vs6) .no)]⟩), (3, ⟨79, [(.v (.str l7) .no), (.v (.bool b8) .no), (.v (.bool b9) .no), (.v (.int .i64 n10) .no), (.v (.int .i64 n11) .no)]⟩)]])
  | 0, l0, n3 => rfl
  | t + 1, l0, n3 => (F_aencode_8_ok N f vs1 n2 n4 n5 vs6 l7 b8 b9 n10 n11 l0 n3 _ K).trans (congrArg (fun L => F_aencode_8 N f vs1 n2 n4 n5 vs6 l7 b8 b9 n10 n11 L (fun a0 => K (.exit 0) [(.ptr 0 1 0), (.ptr 0 3 0), (.v (.bytes a0) (.own (.slot 4) 5))] [[(1, ⟨24, [(.v (.int .i64 n4) .no), (.v (.int .i64 n5) .no), (.v (.sl 24 vs6) .no)]⟩), (3, ⟨79, [(.v (.str l7) .no), (.v (.bool b8) .no), (.v (.bool b9) .no), (.v (.int .i64 n10) .no), (.v (.int .i64 n11) .no)]⟩)]]) l0 n3) (funext fun l0 => funext fun n3 => S_aencode_8_ok N f vs1 n2 n4 n5 vs6 l7 b8 b9 n10 n11 K t l0 n3))
theorem B_aencode_ok (N : Nat) (f : Int → Int → List V → Option (List UInt8)) (x0 : Int) (x1 : Int) (x2 : List V) : bodyK (cx_aencode N f) Tryd.f51 [.agg [.v (.int .i64 x0) .no, .v (.int .i64 x1) .no, .v (.sl 24 x2) .no]] [] r_aencode = B_aencode N f x0 x1 x2 := by
  kernel_rfl
theorem go_aencode : Goes Tryd.prog 51 := goes_of Tryd.func51 (by kernel_rfl) (c := bodyOf Tryd.f51) (by kernel_rfl)
theorem eo_aencode (s : Int → Int → List V → Option (List UInt8)) (hs : ∀ (x0 : Int) (x1 : Int) (x2 : List V) (r0 : List UInt8), s x0 x1 x2 = some r0 → PureRet Tryd.prog T 51 [.agg [.v (.int .i64 x0) .no, .v (.int .i64 x1) .no, .v (.sl 24 x2) .no]] [.v (.bytes r0) .no]) : EntOK Tryd.prog T ⟨51, e_aencode s⟩ := by
  refine ⟨go_aencode, fun R ds K r h => ?_, fun R ds K => ?_⟩
  · simp only [e_aencode] at h
    split at h
    · obtain ⟨r0, h1, h2⟩ := bnd1_some h
      exact ⟨_, h2, hs _ _ _ _ h1⟩
    · cases h
  · simp only [e_aencode]
    split
    · rw [bnd1_b]; rfl
    · rfl
theorem co_aencode (N : Nat) (f : Int → Int → List V → Option (List UInt8)) (hf : ∀ (x0 : Int) (x1 : Int) (x2 : List V) (r0 : List UInt8), f x0 x1 x2 = some r0 → PureRet Tryd.prog T 51 [.agg [.v (.int .i64 x0) .no, .v (.int .i64 x1) .no, .v (.sl 24 x2) .no]] [.v (.bytes r0) .no]) : CxOK Tryd.prog (cx_aencode N f) :=
  cxOK_of2 (es := [⟨51, e_aencode f⟩, ⟨67, e_forms (s_forms N)⟩]) (me := []) (ms := []) T_ok ⟨eo_aencode f hf, eo_forms _ (p_forms N), trivial⟩ trivial trivial rfl (fun _ _ _ _ => rfl) (fun _ _ _ _ _ _ => rfl) rfl
theorem lk_aencode_8 (N : Nat) (f : Int → Int → List V → Option (List UInt8)) : LoopOK (cx_aencode N f) 45 (loopN Tryd.f51 0) := by
  refine loopOK_of (rid := 8) (by kernel_rfl) rfl rfl fun R ds m K r h => ?_
  have h : l_aencode_8 N f ds m K = some r := h
  unfold l_aencode_8 at h
  split at h
  · exact ⟨N, Eq.trans (S_aencode_8_ok ..) h⟩
  · cases h
theorem lo_aencode (N : Nat) (f : Int → Int → List V → Option (List UInt8)) : LoopsOK (cx_aencode N f) Tryd.f51.ntmps (bodyOf Tryd.f51) :=
  loopsOK_of (k := 1) (by kernel_rfl) ⟨trivial, lk_aencode_8 N f⟩
theorem p_aencode (N : Nat) : ∀ (M : Nat) (x0 : Int) (x1 : Int) (x2 : List V) (r0 : List UInt8), s_aencode N M x0 x1 x2 = some r0 → PureRet Tryd.prog T 51 [.agg [.v (.int .i64 x0) .no, .v (.int .i64 x1) .no, .v (.sl 24 x2) .no]] [.v (.bytes r0) .no]
  | 0, _, _, _, _, h => by cases h
  | M + 1, x0, x1, x2, r0, h => pure_of (cx := cx_aencode N (s_aencode N M)) (by kernel_rfl) (co_aencode N (s_aencode N M) (p_aencode N M)) Tryd.func51 (by kernel_rfl) (by kernel_rfl) (lo_aencode N (s_aencode N M)) rfl rfl rfl (rf := r_aencode) ((B_aencode_ok N (s_aencode N M) x0 x1 x2).trans h) (fun rs' m h => by
    unfold r_aencode at h
    split at h
    · cases h; exact ⟨rfl, rfl⟩
    · cases h)
noncomputable def e_aEncode {R : Type} (s : List V → Option (List UInt8 × Int)) (ds : List D) (K : List D → Option R) : Option R :=
  match ds with
  | [.v (.sl 53 x0) .no] => bnd2 (s x0) fun r0 r1 => K [.v (.bytes r0) .no, .v (.int .i64 r1) .no]
  | _ => none
noncomputable def r_aEncode (rs : List D) (_ : Mem) : Option (List UInt8 × Int) :=
  match rs with
  | [.v (.bytes r0) _, .v (.int .i64 r1) _] => some (r0, r1)
  | _ => none
noncomputable def F_aEncode_6 {R : Type} (N : Nat) (vs1 : List V) (n2 : Int) (Lq : List V → Int → Option R) (K0 : List V → Option R) (vs0 : List V) (n3 : Int) : Option R :=
  br (decide (n3 < n2))
  (br (decide (0 ≤ n3) && decide (n3 < (↑vs1.length : Int)))
    (at? vs1 n3.toNat fun x0 =>
      x0.unAgg fun l1 =>
        unCons l1 fun x2 l3 =>
          V.unInt IntKind.i64 x2 fun n4 =>
            unCons l3 fun x5 l6 =>
              V.unInt IntKind.i64 x5 fun n7 =>
                unCons l6 fun x8 l9 =>
                  V.unInt IntKind.i64 x8 fun n10 =>
                    unCons l9 fun x11 l12 =>
                      V.unSl 24 x11 fun l13 =>
                        unNil l12
                          (bnd1 (s_aencode N N n7 n10 l13) fun l14 =>
                            br (decide (([UInt8.ofNat (IntKind.u8.wrap n4).toNat].length + l14.length) * 1 ≤ 140737488355328))
                              (br (decide ((vs0.length + [V.agg [V.int IntKind.i64 128, V.bytes (UInt8.ofNat (IntKind.u8.wrap n4).toNat :: [].append l14), V.sl 67 []]].length) * 56 ≤ 140737488355328))
                                (Lq (vs0 ++ [V.agg [V.int IntKind.i64 128, V.bytes (UInt8.ofNat (IntKind.u8.wrap n4).toNat :: [].append l14), V.sl 67 []]]) (IntKind.i64.wrap (n3 + 1))) none)
                              none))
    none)
  (K0 vs0)
noncomputable def S_aEncode_6 {R : Type} (N : Nat) (vs1 : List V) (n2 : Int) : Nat → List V → Int → (List V → Option R) → Option R
  | 0, _, _, _ => none
  | t + 1, vs0, n3, K0 => F_aEncode_6 N vs1 n2 (fun vs0 n3 => S_aEncode_6 N vs1 n2 t vs0 n3 K0) K0 vs0 n3
noncomputable def l_aEncode_6 {R : Type} (N : Nat) (ds : List D) (m : Mem) (K : Ex → List D → Mem → Option R) : Option R :=
  match ds, m with
  | [(.v (.sl 67 vs0) (.own (.slot 5) 67)), (.v (.sl 53 vs1) .no), (.v (.int .i64 n2) .no), (.v (.int .i64 n3) .no)], [[]] => S_aEncode_6 N vs1 n2 N vs0 n3 (fun a0 => K (.exit 0) [(.v (.sl 67 a0) (.own (.slot 5) 67))] [[]])
  | _, _ => none
noncomputable def s_aEncode (N : Nat) (x0 : List V) : Option (List UInt8 × Int) :=
  bnd1 (s_aCheckRules N x0) fun n0 => br (!decide (n0 = 0)) (some ([], n0)) (S_aEncode_6 N x0 (↑x0.length : Int) N [] 0 fun l1 => bnd2 (s_Encode N l1) fun l2 n3 => some (l2, n3))
noncomputable def cx_aEncode (N : Nat) : Cx := { T := T, isPure := tabP [⟨30, e_aCheckRules (s_aCheckRules N)⟩, ⟨51, e_aencode (s_aencode N N)⟩, ⟨52, e_Encode (s_Encode N)⟩], pureK := fun g ds K => tabK [⟨30, e_aCheckRules (s_aCheckRules N)⟩, ⟨51, e_aencode (s_aencode N N)⟩, ⟨52, e_Encode (s_Encode N)⟩] g ds K, memK := fun g dst ds m K => tabMK [] g dst ds m K, meth := tabM [], keep := fun r => match r with | 6 => [5, 13, 14, 15] | _ => [], keepX := fun r => match r with | 6 => [5] | _ => [], loopT := fun r ds m K => match r with | 6 => l_aEncode_6 N ds m K | _ => none, jumps := 9 }
theorem F_aEncode_6_ok {R : Type} (N : Nat) (vs1 : List V) (n2 : Int) (vs0 : List V) (n3 : Int) (L : List D → Mem → Option R) (K : Ex → List D → Mem → Option R) :
    roundK (fun st K => codeK (cx_aEncode N) (loopN Tryd.f25 0) st K) 36 [5, 13, 14, 15] [5] L [(.v (.sl 67 vs0) (.own (.slot 5) 67)), (.v (.sl 53 vs1) .no), (.v (.int .i64 n2) .no), (.v (.int .i64 n3) .no)] [[]] K = F_aEncode_6 N vs1 n2 (fun vs0 n3 => L [(.v (.sl 67 vs0) (.own (.slot 5) 67)), (.v (.sl 53 vs1) .no), (.v (.int .i64 n2) .no), (.v (.int .i64 n3) .no)] [[]]) (fun a0 => K (.exit 0) [(.v (.sl 67 a0) (.own (.slot 5) 67))] [[]]) vs0 n3 := by
  kernel_rfl
theorem S_aEncode_6_ok {R : Type} (N : Nat) (vs1 : List V) (n2 : Int) (K : Ex → List D → Mem → Option R) : ∀ (t : Nat) (vs0 : List V) (n3 : Int),
    loopK (fun st K => codeK (cx_aEncode N) (loopN Tryd.f25 0) st K) 36 [5, 13, 14, 15] [5] t [(.v (.sl 67 vs0) (.own (.slot 5) 67)), (.v (.sl 53 vs1) .no), (.v (.int .i64 n2) .no), (.v (.int .i64 n3) .no)] [[]] K = S_aEncode_6 N vs1 n2 t vs0 n3 (fun a0 => K (.exit 0) [(.v (.sl 67 a0) (.own (.slot 5) 67))] [[]])
  | 0, vs0, n3 => rfl
  | t + 1, vs0, n3 => (F_aEncode_6_ok N vs1 n2 vs0 n3 _ K).trans (congrArg (fun L => F_aEncode_6 N vs1 n2 L (fun a0 => K (.exit 0) [(.v (.sl 67 a0) (.own (.slot 5) 67))] [[]]) vs0 n3) (funext fun vs0 => funext fun n3 => S_aEncode_6_ok N vs1 n2 K t vs0 n3))
theorem s_aEncode_ok (N : Nat) (x0 : List V) : bodyK (cx_aEncode N) Tryd.f25 [.v (.sl 53 x0) .no] [] r_aEncode = s_aEncode N x0 := by
  kernel_rfl
theorem go_aEncode : Goes Tryd.prog 25 := goes_of Tryd.func25 (by kernel_rfl) (c := bodyOf Tryd.f25) (by kernel_rfl)
theorem eo_aEncode (s : List V → Option (List UInt8 × Int)) (hs : ∀ (x0 : List V) (r0 : List UInt8) (r1 : Int), s x0 = some (r0, r1) → PureRet Tryd.prog T 25 [.v (.sl 53 x0) .no] [.v (.bytes r0) .no, .v (.int .i64 r1) .no]) : EntOK Tryd.prog T ⟨25, e_aEncode s⟩ := by
  refine ⟨go_aEncode, fun R ds K r h => ?_, fun R ds K => ?_⟩
  · simp only [e_aEncode] at h
    split at h
    · obtain ⟨r0, r1, h1, h2⟩ := bnd2_some h
      exact ⟨_, h2, hs _ _ _ h1⟩
    · cases h
  · simp only [e_aEncode]
    split
    · rw [bnd2_b]; rfl
    · rfl
theorem co_aEncode (N : Nat) : CxOK Tryd.prog (cx_aEncode N) :=
  cxOK_of2 (es := [⟨30, e_aCheckRules (s_aCheckRules N)⟩, ⟨51, e_aencode (s_aencode N N)⟩, ⟨52, e_Encode (s_Encode N)⟩]) (me := []) (ms := []) T_ok ⟨eo_aCheckRules _ (p_aCheckRules N), eo_aencode _ (p_aencode N N), eo_Encode _ (p_Encode N), trivial⟩ trivial trivial rfl (fun _ _ _ _ => rfl) (fun _ _ _ _ _ _ => rfl) rfl
theorem lk_aEncode_6 (N : Nat) : LoopOK (cx_aEncode N) 36 (loopN Tryd.f25 0) := by
  refine loopOK_of (rid := 6) (by kernel_rfl) rfl rfl fun R ds m K r h => ?_
  have h : l_aEncode_6 N ds m K = some r := h
  unfold l_aEncode_6 at h
  split at h
  · exact ⟨N, Eq.trans (S_aEncode_6_ok ..) h⟩
  · cases h
theorem lo_aEncode (N : Nat) : LoopsOK (cx_aEncode N) Tryd.f25.ntmps (bodyOf Tryd.f25) :=
  loopsOK_of (k := 1) (by kernel_rfl) ⟨trivial, lk_aEncode_6 N⟩
theorem p_aEncode (N : Nat) (x0 : List V) (r0 : List UInt8) (r1 : Int) (h : s_aEncode N x0 = some (r0, r1)) : PureRet Tryd.prog T 25 [.v (.sl 53 x0) .no] [.v (.bytes r0) .no, .v (.int .i64 r1) .no] :=
  pure_of (cx := cx_aEncode N) (by kernel_rfl) (co_aEncode N) Tryd.func25 (by kernel_rfl) (by kernel_rfl) (lo_aEncode N) rfl rfl rfl (rf := r_aEncode) ((s_aEncode_ok N x0).trans h) (fun rs' m h => by
    unfold r_aEncode at h
    split at h
    · cases h; exact ⟨rfl, rfl⟩
    · cases h)
noncomputable def e_adecode {R : Type} (s : List UInt8 → Int → Option (Int × Int × List V × List UInt8 × Bool)) (ds : List D) (K : List D → Option R) : Option R :=
  match ds with
  | [.v (.bytes x0) .no, .v (.int .i64 x1) .no] => bnd5 (s x0 x1) fun r0 r1 r2 r3 r4 => K [.agg [.v (.int .i64 r0) .no, .v (.int .i64 r1) .no, .v (.sl 24 r2) .no], .v (.bytes r3) .no, .v (.bool r4) .no]
  | _ => none
noncomputable def r_adecode (rs : List D) (_ : Mem) : Option (Int × Int × List V × List UInt8 × Bool) :=
  match rs with
  | [.agg [.v (.int .i64 r0) _, .v (.int .i64 r1) _, .v (.sl 24 r2) _], .v (.bytes r3) _, .v (.bool r4) _] => some (r0, r1, r2, r3, r4)
  | _ => none
noncomputable def F_adecode_16 {R : Type} (N : Nat) (f : List UInt8 → Int → Option (Int × Int × List V × List UInt8 × Bool)) (n1 : Int) (n2 : Int) (n4 : Int) (n5 : Int) (vs6 : List V) (n7 : Int) (n8 : Int) (l10 : List UInt8) (b11 : Bool) (b12 : Bool) (n13 : Int) (n14 : Int) (Lq : List UInt8 → Int → List V → Option R) (K0 : List UInt8 → List UInt8 → Bool → Int → Int → List V → List V → Option R) (K1 : List UInt8 → List V → Option R) (l0 : List UInt8) (n3 : Int) (vs9 : List V) : Option R :=
  br (decide (n3 < n2))
  (bnd5 (f l0 (IntKind.i64.wrap (n1 + 1))) fun n0 n1 l2 l3 b4 =>
    br (!b4) (K0 l0 [] false 0 0 [] vs9)
      (br (decide ((vs9.length + [V.agg [V.int IntKind.i64 n0, V.int IntKind.i64 n1, V.sl 24 l2]].length) * 40 ≤ 140737488355328)) (Lq l3 (IntKind.i64.wrap (n3 + 1)) (vs9 ++ [V.agg [V.int IntKind.i64 n0, V.int IntKind.i64 n1, V.sl 24 l2]]))
        none))
  (K1 l0 vs9)
noncomputable def S_adecode_16 {R : Type} (N : Nat) (f : List UInt8 → Int → Option (Int × Int × List V × List UInt8 × Bool)) (n1 : Int) (n2 : Int) (n4 : Int) (n5 : Int) (vs6 : List V) (n7 : Int) (n8 : Int) (l10 : List UInt8) (b11 : Bool) (b12 : Bool) (n13 : Int) (n14 : Int) : Nat → List UInt8 → Int → List V → (List UInt8 → List UInt8 → Bool → Int → Int → List V → List V → Option R) → (List UInt8 → List V → Option R) → Option R
  | 0, _, _, _, _, _ => none
  | t + 1, l0, n3, vs9, K0, K1 => F_adecode_16 N f n1 n2 n4 n5 vs6 n7 n8 l10 b11 b12 n13 n14 (fun l0 n3 vs9 => S_adecode_16 N f n1 n2 n4 n5 vs6 n7 n8 l10 b11 b12 n13 n14 t l0 n3 vs9 K0 K1) K0 K1 l0 n3 vs9
noncomputable def l_adecode_16 {R : Type} (N : Nat) (f : List UInt8 → Int → Option (Int × Int × List V × List UInt8 × Bool)) (ds : List D) (m : Mem) (K : Ex → List D → Mem → Option R) : Option R :=
  match ds, m with
  | [(.v (.bytes l0) .no), (.v (.int .i64 n1) .no), (.ptr 0 4 0), (.ptr 0 7 0), (.ptr 0 8 0), (.v (.int .i64 n2) .no), (.v (.int .i64 n3) .no)], [[(4, ⟨24, [(.v (.int .i64 n4) .no), (.v (.int .i64 n5) .no), (.v (.sl 24 vs6) (.own (.slot 0) 24))]⟩), (7, ⟨24, [(.v (.int .i64 n7) .no), (.v (.int .i64 n8) .no), (.v (.sl 24 vs9) (.own (.slot 0) 24))]⟩), (8, ⟨79, [(.v (.str l10) .no), (.v (.bool b11) .no), (.v (.bool b12) .no), (.v (.int .i64 n13) .no), (.v (.int .i64 n14) .no)]⟩)]] => S_adecode_16 N f n1 n2 n4 n5 vs6 n7 n8 l10 b11 b12 n13 n14 N l0 n3 vs9 (fun a0 a1 a2 a3 a4 a5 a8 => K .ret [(.v (.bytes a0) .no), (.ptr 0 4 0), (.v (.bytes a1) (.own (.slot 5) 5)), (.v (.bool a2) .no), (.ptr 0 7 0), (.ptr 0 8 0)] [[(4, ⟨24, [(.v (.int .i64 a3) .no), (.v (.int .i64 a4) .no), (.v (.sl 24 a5) (.own (.slot 0) 24))]⟩), (7, ⟨24, [(.v (.int .i64 n7) .no), (.v (.int .i64 n8) .no), (.v (.sl 24 a8) (.own (.slot 0) 24))]⟩), (8, ⟨79, [(.v (.str l10) .no), (.v (.bool b11) .no), (.v (.bool b12) .no), (.v (.int .i64 n13) .no), (.v (.int .i64 n14) .no)]⟩)]]) (fun a0 a6 => K (.exit 0) [(.v (.bytes a0) .no), (.ptr 0 4 0), .any, .any, (.ptr 0 7 0), (.ptr 0 8 0)] [[(4, ⟨24, [(.v (.int .i64 n4) .no), (.v (.int .i64 n5) .no), (.v (.sl 24 vs6) (.own (.slot 0) 24))]⟩), (7, ⟨24, [(.v (.int .i64 n7) .no), (.v (.int .i64 n8) .no), (.v (.sl 24 a6) (.own (.slot 0) 24))]⟩), (8, ⟨79, [(.v (.str l10) .no), (.v (.bool b11) .no), (.v (.bool b12) .no), (.v (.int .i64 n13) .no), (.v (.int .i64 n14) .no)]⟩)]])
  | _, _ => none
noncomputable def B_adecode (N : Nat) (f : List UInt8 → Int → Option (Int × Int × List V × List UInt8 × Bool)) (x0 : List UInt8) (x1 : Int) : Option (Int × Int × List V × List UInt8 × Bool) :=
  br (decide ((↑x0.length : Int) = 0)) (some (0, 0, [], [], false))
  (br (decide (0 < (↑x0.length : Int)))
    (at? x0 0 fun u0 =>
      br (decide (7 < IntKind.i64.wrap (↑u0.toNat : Int))) (some (0, 0, [], [], false))
        (br (decide (8 < x1)) (some (0, 0, [], [], false))
          (br (decide (0 < (↑x0.length : Int)))
            (at? x0 0 fun u1 =>
              bnd1 (s_forms N) fun x2 =>
                br (decide (IntKind.i64.wrap (↑u1.toNat : Int) = 0)) (br (decide (1 ≤ (↑x0.length : Int))) (some (IntKind.i64.wrap (↑u1.toNat : Int), 0, [], List.drop 1 x0, true)) none)
                  (br (decide (IntKind.i64.wrap (↑u1.toNat : Int) = 1)) (br (decide (1 ≤ (↑x0.length : Int))) (some (IntKind.i64.wrap (↑u1.toNat : Int), 0, [], List.drop 1 x0, true)) none)
                    (br (decide (IntKind.i64.wrap (↑u1.toNat : Int) = 2))
                      (br (decide (1 ≤ (↑x0.length : Int)))
                        (br (decide ((↑(List.drop 1 x0).length : Int) = 0)) (some (0, 0, [], [], false))
                          (br (decide (0 < (↑(List.drop 1 x0).length : Int)))
                            (at? (List.drop 1 x0) 0 fun u3 => br (decide (1 ≤ (↑(List.drop 1 x0).length : Int))) (some (IntKind.i64.wrap (↑u1.toNat : Int), IntKind.i64.wrap (↑u3.toNat : Int), [], List.drop 1 (List.drop 1 x0), true)) none)
                            none))
                        none)
                      (br (decide (IntKind.i64.wrap (↑u1.toNat : Int) = 3))
                        (br (decide (1 ≤ (↑x0.length : Int)))
                          (br (decide ((↑(List.drop 1 x0).length : Int) = 0)) (some (0, 0, [], [], false))
                            (br (decide (0 < (↑(List.drop 1 x0).length : Int)))
                              (at? (List.drop 1 x0) 0 fun u4 => br (decide (1 ≤ (↑(List.drop 1 x0).length : Int))) (some (IntKind.i64.wrap (↑u1.toNat : Int), IntKind.i64.wrap (↑u4.toNat : Int), [], List.drop 1 (List.drop 1 x0), true)) none)
                              none))
                          none)
                        (br (decide (IntKind.i64.wrap (↑u1.toNat : Int) = 4))
                          (br (decide (1 ≤ (↑x0.length : Int)))
                            (br (decide ((↑(List.drop 1 x0).length : Int) = 0)) (some (0, 0, [], [], false))
                              (br (decide (0 < (↑(List.drop 1 x0).length : Int)))
                                (at? (List.drop 1 x0) 0 fun u5 =>
                                  br (decide (1 ≤ (↑(List.drop 1 x0).length : Int))) (some (IntKind.i64.wrap (↑u1.toNat : Int), IntKind.i64.wrap (↑u5.toNat : Int), [], List.drop 1 (List.drop 1 x0), true)) none)
                                none))
                            none)
                          (br (decide (IntKind.i64.wrap (↑u1.toNat : Int) = 5))
                            (br (decide (1 ≤ (↑x0.length : Int)))
                              (br (decide ((↑(List.drop 1 x0).length : Int) = 0)) (some (0, 0, [], [], false))
                                (br (decide (0 < (↑(List.drop 1 x0).length : Int)))
                                  (at? (List.drop 1 x0) 0 fun u6 =>
                                    br (decide (1 ≤ (↑(List.drop 1 x0).length : Int))) (some (IntKind.i64.wrap (↑u1.toNat : Int), IntKind.i64.wrap (↑u6.toNat : Int), [], List.drop 1 (List.drop 1 x0), true)) none)
                                  none))
                              none)
                            (br (decide (IntKind.i64.wrap (↑u1.toNat : Int) = 6))
                              (br (decide (1 ≤ (↑x0.length : Int)))
                                (br (decide ((↑(List.drop 1 x0).length : Int) = 0)) (some (0, 0, [], [], false))
                                  (br (decide (0 < (↑(List.drop 1 x0).length : Int)))
                                    (at? (List.drop 1 x0) 0 fun u7 =>
                                      br (decide (1 ≤ (↑(List.drop 1 x0).length : Int)))
                                        (S_adecode_16 N f x1 (IntKind.i64.wrap (↑u7.toNat : Int)) 0 0 [] (IntKind.i64.wrap (↑u1.toNat : Int)) 0 ([97, 110, 100] : List UInt8) false true 0 0 N (List.drop 1 (List.drop 1 x0)) 0 []
                                          (fun l8 l9 b10 n11 n12 l13 l14 => some (n11, n12, l13, l9, b10)) fun l15 l16 => some (IntKind.i64.wrap (↑u1.toNat : Int), 0, l16, l15, true))
                                        none)
                                    none))
                                none)
                              (br (decide (IntKind.i64.wrap (↑u1.toNat : Int) = 7))
                                (br (decide (1 ≤ (↑x0.length : Int)))
                                  (br (decide ((↑(List.drop 1 x0).length : Int) = 0)) (some (0, 0, [], [], false))
                                    (br (decide (0 < (↑(List.drop 1 x0).length : Int)))
                                      (at? (List.drop 1 x0) 0 fun u17 =>
                                        br (decide (1 ≤ (↑(List.drop 1 x0).length : Int)))
                                          (S_adecode_16 N f x1 (IntKind.i64.wrap (↑u17.toNat : Int)) 0 0 [] (IntKind.i64.wrap (↑u1.toNat : Int)) 0 ([111, 114] : List UInt8) false true 0 0 N (List.drop 1 (List.drop 1 x0)) 0 []
                                            (fun l18 l19 b20 n21 n22 l23 l24 => some (n21, n22, l23, l19, b20)) fun l25 l26 => some (IntKind.i64.wrap (↑u1.toNat : Int), 0, l26, l25, true))
                                          none)
                                      none))
                                  none)
                                none))))))))
            none)))
    none)
noncomputable def s_adecode (N : Nat) : Nat → List UInt8 → Int → Option (Int × Int × List V × List UInt8 × Bool)
  | 0, _, _ => none
  | n + 1, x0, x1 => B_adecode N (s_adecode N n) x0 x1
noncomputable def cx_adecode (N : Nat) (f : List UInt8 → Int → Option (Int × Int × List V × List UInt8 × Bool)) : Cx := { T := T, isPure := tabP [⟨64, e_adecode f⟩, ⟨67, e_forms (s_forms N)⟩], pureK := fun g ds K => tabK [⟨64, e_adecode f⟩, ⟨67, e_forms (s_forms N)⟩] g ds K, memK := fun g dst ds m K => tabMK [] g dst ds m K, meth := tabM [], keep := fun r => match r with | 16 => [0, 1, 4, 7, 8, 65, 66] | _ => [], keepX := fun r => match r with | 16 => [0, 4, 5, 6, 7, 8] | _ => [], loopT := fun r ds m K => match r with | 16 => l_adecode_16 N f ds m K | _ => none, jumps := 9 }
theorem F_adecode_16_ok {R : Type} (N : Nat) (f : List UInt8 → Int → Option (Int × Int × List V × List UInt8 × Bool)) (n1 : Int) (n2 : Int) (n4 : Int) (n5 : Int) (vs6 : List V) (n7 : Int) (n8 : Int) (l10 : List UInt8) (b11 : Bool) (b12 : Bool) (n13 : Int) (n14 : Int) (l0 : List UInt8) (n3 : Int) (vs9 : List V) (L : List D → Mem → Option R) (K : Ex → List D → Mem → Option R) :
    roundK (fun st K => codeK (cx_adecode N f) (loopN Tryd.f64 0) st K) 89 [0, 1, 4, 7, 8, 65, 66] [0, 4, 5, 6, 7, 8] L [(.v (.bytes l0) .no), (.v (.int .i64 n1) .no), (.ptr 0 4 0), (.ptr 0 7 0), (.ptr 0 8 0), (.v (.int .i64 n2) .no), (.v (.int .i64 n3) .no)] [[(4, ⟨24, [(.v (.int .i64 n4) .no), (.v (.int .i64 n5) .no), (.v (.sl 24 vs6) (.own (.slot 0) 24))]⟩), (7, ⟨24, [(.v (.int .i64 n7) .no), (.v (.int .i64 n8) .no), (.v (.sl 24 vs9) (.own (.slot 0) 24))]⟩), (8, ⟨79, [(.v (.str l10) .no), (.v (.bool b11) .no), (.v (.bool b12) .no), (.v (.int .i64 n13) .no), (.v (.int .i64 n14) .no)]⟩)]] K = F_adecode_16 N f n1 n2 n4 n5 vs6 n7 n8 l10 b11 b12 n13 n14 (fun l0 n3 vs9 => L [(.v (.bytes l0) .no), (.v (.int .i64 n1) .no), (.ptr 0 4 0), (.ptr 0 7 0), (.ptr 0 8 0), (.v (.int .i64 n2) .no), (.v (.int .i64 n3) .no)] [[(4, ⟨24, [(.v (.int .i64 n4) .no), (.v (.int .i64 n5) .no), (.v (.sl 24 vs6) (.own (.slot 0) 24))]⟩), (7, ⟨24, [(.v (.int .i64 n7) .no), (.v (.int .i64 n8) .no), (.v (.sl 24 vs9) (.own (.slot 0) 24))]⟩), (8, ⟨79, [(.v (.str l10) .no), (.v (.bool b11) .no), (.v (.bool b12) .no), (.v (.int .i64 n13) .no), (.v (.int .i64 n14) .no)]⟩)]]) (fun a0 a1 a2 a3 a4 a5 a8 => K .ret [(.v (.bytes a0) .no), (.ptr 0 4 0), (.v (.bytes a1) (.own (.slot 5) 5)), (.v (.bool a2) .no), (.ptr 0 7 0), (.ptr 0 8 0)] [[(4, ⟨24, [(.v (.int .i64 a3) .no), (.v (.int .i64 a4) .no), (.v (.sl 24 a5) (.own (.slot 0) 24))]⟩), (7, ⟨24, [(.v (.int .i64 n7) .no), (.v (.int .i64 n8) .no), (.v (.sl 24 a8) (.own (.slot 0) 24))]⟩), (8, ⟨79, [(.v (.str l10) .no), (.v (.bool b11) .no), (.v (.bool b12) .no), (.v (.int .i64 n13) .no), (.v (.int .i64 n14) .no)]⟩)]]) (fun a0 a6 => K (.exit 0) [(.v (.bytes a0) .no), (.ptr 0 4 0), .any, .any, (.ptr 0 7 0), (.ptr 0 8 0)] [[(4, ⟨24, [(.v (.int .i64 n4) .no), (.v (.int .i64 n5) .no), (.v (.sl 24 vs6) (.own (.slot 0) 24))]⟩), (7, ⟨24, [(.v (.int .i64 n7) .no), (.v (.int .i64 n8) .no), (.v (.sl 24 a6) (.own (.slot 0) 24))]⟩), (8, ⟨79, [(.v (.str l10) .no), (.v (.bool b11) .no), (.v (.bool b12) .no), (.v (.int .i64 n13) .no), (.v (.int .i64 n14) .no)]⟩)]]) l0 n3 vs9 := by
  kernel_rfl
theorem S_adecode_16_ok {R : Type} (N : Nat) (f : List UInt8 → Int → Option (Int × Int × List V × List UInt8 × Bool)) (n1 : Int) (n2 : Int) (n4 : Int) (n5 : Int) (vs6 : List V) (n7 : Int) (n8 : Int) (l10 : List UInt8) (b11 : Bool) (b12 : Bool) (n13 : Int) (n14 : Int) (K : Ex → List D → Mem → Option R) : ∀ (t : Nat) (l0 : List UInt8) (n3 : Int) (vs9 : List V),
    loopK (fun st K => codeK (cx_adecode N f) (loopN Tryd.f64 0) st K) 89 [0, 1, 4, 7, 8, 65, 66] [0, 4, 5, 6, 7, 8] t [(.v (.bytes l0) .no), (.v (.int .i64 n1) .no), (.ptr 0 4 0), (.ptr 0 7 0), (.ptr 0 8 0), (.v (.int .i64 n2) .no), (.v (.int .i64 n3) .no)] [[(4, ⟨24, [(.v (.int .i64 n4) .no), (.v (.int .i64 n5) .no), (.v (.sl 24 vs6) (.own (.slot 0) 24))]⟩), (7, ⟨24, [(.v (.int .i64 n7) .no), (.v (.int .i64 n8) .no), (.v (.sl 24 vs9) (.own (.slot 0) 24))]⟩), (8, ⟨79, [(.v (.str l10) .no), (.v (.bool b11) .no), (.v (.bool b12) .no), (.v (.int .i64 n13) .no), (.v (.int .i64 n14) .no)]⟩)]] K = S_adecode_16 N f n1 n2 n4 n5 vs6 n7 n8 l10 b11 b12 n13 n14 t l0 n3 vs9 (fun a0 a1 a2 a3 a4 a5 a8 => K .ret [(.v (.bytes a0) .no), (.ptr 0 4 0), (.v (.bytes a1) (.own (.slot 5) 5)), (.v (.bool a2) .no), (.ptr 0 7 0), (.ptr 0 8 0)] [[(4, ⟨24, [(.v (.int .i64 a3) .no), (.v (.int .i64 a4) .no), (.v (.sl 24 a5) (.own (.slot 0) 24))]⟩), (7, ⟨24, [(.v (.int .i64 n7) .no), (.v (.int .i64 n8) .no), (.v (.sl 24 a8) (.own (.slot 0) 24))]⟩), (8, ⟨79, [(.v (.str l10) .no), (.v (.bool b11) .no), (.v (.bool b12) .no), (.v (.int .i64 n13) .no), (.v (.int .i64 n14) .no)]⟩)]]) (fun a0 a6 => K (.exit 0) [(.v (.bytes a0) .no), (.ptr 0 4 0), .any, .any, (.ptr 0 7 0), (.ptr 0 8 0)] [[(4, ⟨24, [(.v (.int .i64 n4) .no), (.v (.int .i64 n5) .no), (.v (.sl 24 vs6) (.own (.slot 0) 24))]⟩), (7, ⟨24, [(.v (.int .i64 n7) .no), (.v (.int .i64 n8) .no), (.v (.sl 24 a6) (.own (.slot 0) 24))]⟩), (8, ⟨79, [(.v (.str l10) .no), (.v (.bool b11) .no), (.v (.bool b12) .no), (.v (.int .i64 n13) .no), (.v (.int .i64 n14) .no)]⟩)]])
  | 0, l0, n3, vs9 => rfl
  | t + 1, l0, n3, vs9 => (F_adecode_16_ok N f n1 n2 n4 n5 vs6 n7 n8 l10 b11 b12 n13 n14 l0 n3 vs9 _ K).trans (congrArg (fun L => F_adecode_16 N f n1 n2 n4 n5 vs6 n7 n8 l10 b11 b12 n13 n14 L (fun a0 a1 a2 a3 a4 a5 a8 => K .ret [(.v (.bytes a0) .no), (.ptr 0 4 0), (.v (.bytes a1) (.own (.slot 5) 5)), (.v (.bool a2) .no), (.ptr 0 7 0), (.ptr 0 8 0)] [[(4, ⟨24, [(.v (.int .i64 a3) .no), (.v (.int .i64 a4) .no), (.v (.sl 24 a5) (.own (.slot 0) 24))]⟩), (7, ⟨24, [(.v (.int .i64 n7) .no), (.v (.int .i64 n8) .no), (.v (.sl 24 a8) (.own (.slot 0) 24))]⟩), (8, ⟨79, [(.v (.str l10) .no), (.v (.bool b11) .no), (.v (.bool b12) .no), (.v (.int .i64 n13) .no), (.v (.int .i64 n14) .no)]⟩)]]) (fun a0 a6 => K (.exit 0) [(.v (.bytes a0) .no), (.ptr 0 4 0), .any, .any, (.ptr 0 7 0), (.ptr 0 8 0)] [[(4, ⟨24, [(.v (.int .i64 n4) .no), (.v (.int .i64 n5) .no), (.v (.sl 24 vs6) (.own (.slot 0) 24))]⟩), (7, ⟨24, [(.v (.int .i64 n7) .no), (.v (.int .i64 n8) .no), (.v (.sl 24 a6) (.own (.slot 0) 24))]⟩), (8, ⟨79, [(.v (.str l10) .no), (.v (.bool b11) .no), (.v (.bool b12) .no), (.v (.int .i64 n13) .no), (.v (.int .i64 n14) .no)]⟩)]]) l0 n3 vs9) (funext fun l0 => funext fun n3 => funext fun vs9 => S_adecode_16_ok N f n1 n2 n4 n5 vs6 n7 n8 l10 b11 b12 n13 n14 K t l0 n3 vs9))
theorem B_adecode_ok (N : Nat) (f : List UInt8 → Int → Option (Int × Int × List V × List UInt8 × Bool)) (x0 : List UInt8) (x1 : Int) : bodyK (cx_adecode N f) Tryd.f64 [.v (.bytes x0) .no, .v (.int .i64 x1) .no] [] r_adecode = B_adecode N f x0 x1 := by
  kernel_rfl
theorem go_adecode : Goes Tryd.prog 64 := goes_of Tryd.func64 (by kernel_rfl) (c := bodyOf Tryd.f64) (by kernel_rfl)
theorem eo_adecode (s : List UInt8 → Int → Option (Int × Int × List V × List UInt8 × Bool)) (hs : ∀ (x0 : List UInt8) (x1 : Int) (r0 : Int) (r1 : Int) (r2 : List V) (r3 : List UInt8) (r4 : Bool), s x0 x1 = some (r0, r1, r2, r3, r4) → PureRet Tryd.prog T 64 [.v (.bytes x0) .no, .v (.int .i64 x1) .no] [.agg [.v (.int .i64 r0) .no, .v (.int .i64 r1) .no, .v (.sl 24 r2) .no], .v (.bytes r3) .no, .v (.bool r4) .no]) : EntOK Tryd.prog T ⟨64, e_adecode s⟩ := by
  refine ⟨go_adecode, fun R ds K r h => ?_, fun R ds K => ?_⟩
  · simp only [e_adecode] at h
    split at h
    · obtain ⟨r0, r1, r2, r3, r4, h1, h2⟩ := bnd5_some h
      exact ⟨_, h2, hs _ _ _ _ _ _ _ h1⟩
    · cases h
  · simp only [e_adecode]
    split
    · rw [bnd5_b]; rfl
    · rfl
theorem co_adecode (N : Nat) (f : List UInt8 → Int → Option (Int × Int × List V × List UInt8 × Bool)) (hf : ∀ (x0 : List UInt8) (x1 : Int) (r0 : Int) (r1 : Int) (r2 : List V) (r3 : List UInt8) (r4 : Bool), f x0 x1 = some (r0, r1, r2, r3, r4) → PureRet Tryd.prog T 64 [.v (.bytes x0) .no, .v (.int .i64 x1) .no] [.agg [.v (.int .i64 r0) .no, .v (.int .i64 r1) .no, .v (.sl 24 r2) .no], .v (.bytes r3) .no, .v (.bool r4) .no]) : CxOK Tryd.prog (cx_adecode N f) :=
  cxOK_of2 (es := [⟨64, e_adecode f⟩, ⟨67, e_forms (s_forms N)⟩]) (me := []) (ms := []) T_ok ⟨eo_adecode f hf, eo_forms _ (p_forms N), trivial⟩ trivial trivial rfl (fun _ _ _ _ => rfl) (fun _ _ _ _ _ _ => rfl) rfl
theorem lk_adecode_16 (N : Nat) (f : List UInt8 → Int → Option (Int × Int × List V × List UInt8 × Bool)) : LoopOK (cx_adecode N f) 89 (loopN Tryd.f64 0) := by
  refine loopOK_of (rid := 16) (by kernel_rfl) rfl rfl fun R ds m K r h => ?_
  have h : l_adecode_16 N f ds m K = some r := h
  unfold l_adecode_16 at h
  split at h
  · exact ⟨N, Eq.trans (S_adecode_16_ok ..) h⟩
  · cases h
theorem lo_adecode (N : Nat) (f : List UInt8 → Int → Option (Int × Int × List V × List UInt8 × Bool)) : LoopsOK (cx_adecode N f) Tryd.f64.ntmps (bodyOf Tryd.f64) :=
  loopsOK_of (k := 1) (by kernel_rfl) ⟨trivial, lk_adecode_16 N f⟩
theorem p_adecode (N : Nat) : ∀ (M : Nat) (x0 : List UInt8) (x1 : Int) (r0 : Int) (r1 : Int) (r2 : List V) (r3 : List UInt8) (r4 : Bool), s_adecode N M x0 x1 = some (r0, r1, r2, r3, r4) → PureRet Tryd.prog T 64 [.v (.bytes x0) .no, .v (.int .i64 x1) .no] [.agg [.v (.int .i64 r0) .no, .v (.int .i64 r1) .no, .v (.sl 24 r2) .no], .v (.bytes r3) .no, .v (.bool r4) .no]
  | 0, _, _, _, _, _, _, _, h => by cases h
  | M + 1, x0, x1, r0, r1, r2, r3, r4, h => pure_of (cx := cx_adecode N (s_adecode N M)) (by kernel_rfl) (co_adecode N (s_adecode N M) (p_adecode N M)) Tryd.func64 (by kernel_rfl) (by kernel_rfl) (lo_adecode N (s_adecode N M)) rfl rfl rfl (rf := r_adecode) ((B_adecode_ok N (s_adecode N M) x0 x1).trans h) (fun rs' m h => by
    unfold r_adecode at h
    split at h
    · cases h; exact ⟨rfl, rfl⟩
    · cases h)
noncomputable def e_aDecode {R : Type} (s : List UInt8 → Option (List V × Int)) (ds : List D) (K : List D → Option R) : Option R :=
  match ds with
  | [.v (.bytes x0) .no] => bnd2 (s x0) fun r0 r1 => K [.v (.sl 53 r0) .no, .v (.int .i64 r1) .no]
  | _ => none
noncomputable def r_aDecode (rs : List D) (_ : Mem) : Option (List V × Int) :=
  match rs with
  | [.v (.sl 53 r0) _, .v (.int .i64 r1) _] => some (r0, r1)
  | _ => none
noncomputable def F_aDecode_6 {R : Type} (N : Nat) (vs1 : List V) (n2 : Int) (Lq : List V → Int → Option R) (K0 : List V → Int → List V → Option R) (K1 : List V → Option R) (vs0 : List V) (n3 : Int) : Option R :=
  br (decide (n3 < n2))
  (br (decide (0 ≤ n3) && decide (n3 < (↑vs1.length : Int)))
    (at? vs1 n3.toNat fun x0 =>
      x0.unAgg fun l1 =>
        unCons l1 fun x2 l3 =>
          V.unInt IntKind.i64 x2 fun n4 =>
            unCons l3 fun x5 l6 =>
              x5.unBytes fun l7 =>
                unCons l6 fun x8 l9 =>
                  V.unSl 67 x8 fun l10 =>
                    unNil l9
                      (br (!decide (n4 = 128)) (K0 [] 4 vs0)
                        (br (decide ((↑l7.length : Int) = 0)) (K0 [] 4 vs0)
                          (br (decide (1 ≤ (↑l7.length : Int)))
                            (bnd5 (s_adecode N N (List.drop 1 l7) 1) fun n11 n12 l13 l14 b15 =>
                              br (!b15) (K0 [] 4 vs0)
                                (br (decide (0 < (↑l14.length : Int))) (K0 [] 4 vs0)
                                  (br (decide (0 < (↑l7.length : Int)))
                                    (at? l7 0 fun u16 =>
                                      br (decide ((vs0.length + [V.agg [V.int IntKind.i64 (IntKind.i64.wrap (↑u16.toNat : Int)), V.int IntKind.i64 n11, V.int IntKind.i64 n12, V.sl 24 l13]].length) * 48 ≤ 140737488355328))
                                        (Lq (vs0 ++ [V.agg [V.int IntKind.i64 (IntKind.i64.wrap (↑u16.toNat : Int)), V.int IntKind.i64 n11, V.int IntKind.i64 n12, V.sl 24 l13]]) (IntKind.i64.wrap (n3 + 1))) none)
                                    none)))
                            none))))
    none)
  (K1 vs0)
noncomputable def S_aDecode_6 {R : Type} (N : Nat) (vs1 : List V) (n2 : Int) : Nat → List V → Int → (List V → Int → List V → Option R) → (List V → Option R) → Option R
  | 0, _, _, _, _ => none
  | t + 1, vs0, n3, K0, K1 => F_aDecode_6 N vs1 n2 (fun vs0 n3 => S_aDecode_6 N vs1 n2 t vs0 n3 K0 K1) K0 K1 vs0 n3
noncomputable def l_aDecode_6 {R : Type} (N : Nat) (ds : List D) (m : Mem) (K : Ex → List D → Mem → Option R) : Option R :=
  match ds, m with
  | [(.v (.sl 53 vs0) (.own (.slot 6) 53)), (.v (.sl 67 vs1) .no), (.v (.int .i64 n2) .no), (.v (.int .i64 n3) .no)], [[]] => S_aDecode_6 N vs1 n2 N vs0 n3 (fun a0 a1 a2 => K .ret [(.v (.sl 53 a0) (.own (.slot 2) 53)), (.v (.int .i64 a1) .no), (.v (.sl 53 a2) (.own (.slot 6) 53))] [[]]) (fun a0 => K (.exit 0) [.any, .any, (.v (.sl 53 a0) (.own (.slot 6) 53))] [[]])
  | _, _ => none
noncomputable def s_aDecode (N : Nat) (x0 : List UInt8) : Option (List V × Int) :=
  bnd2 (s_Decode N x0) fun l0 n1 =>
  br (!decide (n1 = 0)) (some ([], n1)) (S_aDecode_6 N l0 (↑l0.length : Int) N [] 0 (fun l2 n3 l4 => some (l2, n3)) fun l5 => bnd1 (s_aCheckRules N l5) fun n6 => br (!decide (n6 = 0)) (some ([], 4)) (some (l5, 0)))
noncomputable def cx_aDecode (N : Nat) : Cx := { T := T, isPure := tabP [⟨63, e_Decode (s_Decode N)⟩, ⟨64, e_adecode (s_adecode N N)⟩, ⟨30, e_aCheckRules (s_aCheckRules N)⟩], pureK := fun g ds K => tabK [⟨63, e_Decode (s_Decode N)⟩, ⟨64, e_adecode (s_adecode N N)⟩, ⟨30, e_aCheckRules (s_aCheckRules N)⟩] g ds K, memK := fun g dst ds m K => tabMK [] g dst ds m K, meth := tabM [], keep := fun r => match r with | 6 => [6, 20, 21, 22] | _ => [], keepX := fun r => match r with | 6 => [2, 3, 6] | _ => [], loopT := fun r ds m K => match r with | 6 => l_aDecode_6 N ds m K | _ => none, jumps := 9 }
theorem F_aDecode_6_ok {R : Type} (N : Nat) (vs1 : List V) (n2 : Int) (vs0 : List V) (n3 : Int) (L : List D → Mem → Option R) (K : Ex → List D → Mem → Option R) :
    roundK (fun st K => codeK (cx_aDecode N) (loopN Tryd.f36 0) st K) 65 [6, 20, 21, 22] [2, 3, 6] L [(.v (.sl 53 vs0) (.own (.slot 6) 53)), (.v (.sl 67 vs1) .no), (.v (.int .i64 n2) .no), (.v (.int .i64 n3) .no)] [[]] K = F_aDecode_6 N vs1 n2 (fun vs0 n3 => L [(.v (.sl 53 vs0) (.own (.slot 6) 53)), (.v (.sl 67 vs1) .no), (.v (.int .i64 n2) .no), (.v (.int .i64 n3) .no)] [[]]) (fun a0 a1 a2 => K .ret [(.v (.sl 53 a0) (.own (.slot 2) 53)), (.v (.int .i64 a1) .no), (.v (.sl 53 a2) (.own (.slot 6) 53))] [[]]) (fun a0 => K (.exit 0) [.any, .any, (.v (.sl 53 a0) (.own (.slot 6) 53))] [[]]) vs0 n3 := by
  kernel_rfl
theorem S_aDecode_6_ok {R : Type} (N : Nat) (vs1 : List V) (n2 : Int) (K : Ex → List D → Mem → Option R) : ∀ (t : Nat) (vs0 : List V) (n3 : Int),
    loopK (fun st K => codeK (cx_aDecode N) (loopN Tryd.f36 0) st K) 65 [6, 20, 21, 22] [2, 3, 6] t [(.v (.sl 53 vs0) (.own (.slot 6) 53)), (.v (.sl 67 vs1) .no), (.v (.int .i64 n2) .no), (.v (.int .i64 n3) .no)] [[]] K = S_aDecode_6 N vs1 n2 t vs0 n3 (fun a0 a1 a2 => K .ret [(.v (.sl 53 a0) (.own (.slot 2) 53)), (.v (.int .i64 a1) .no), (.v (.sl 53 a2) (.own (.slot 6) 53))] [[]]) (fun a0 => K (.exit 0) [.any, .any, (.v (.sl 53 a0) (.own (.slot 6) 53))] [[]])
  | 0, vs0, n3 => rfl
  | t + 1, vs0, n3 => (F_aDecode_6_ok N vs1 n2 vs0 n3 _ K).trans (congrArg (fun L => F_aDecode_6 N vs1 n2 L (fun a0 a1 a2 => K .ret [(.v (.sl 53 a0) (.own (.slot 2) 53)), (.v (.int .i64 a1) .no), (.v (.sl 53 a2) (.own (.slot 6) 53))] [[]]) (fun a0 => K (.exit 0) [.any, .any, (.v (.sl 53 a0) (.own (.slot 6) 53))] [[]]) vs0 n3) (funext fun vs0 => funext fun n3 => S_aDecode_6_ok N vs1 n2 K t vs0 n3))
theorem s_aDecode_ok (N : Nat) (x0 : List UInt8) : bodyK (cx_aDecode N) Tryd.f36 [.v (.bytes x0) .no] [] r_aDecode = s_aDecode N x0 := by
  kernel_rfl
theorem go_aDecode : Goes Tryd.prog 36 := goes_of Tryd.func36 (by kernel_rfl) (c := bodyOf Tryd.f36) (by kernel_rfl)
theorem eo_aDecode (s : List UInt8 → Option (List V × Int)) (hs : ∀ (x0 : List UInt8) (r0 : List V) (r1 : Int), s x0 = some (r0, r1) → PureRet Tryd.prog T 36 [.v (.bytes x0) .no] [.v (.sl 53 r0) .no, .v (.int .i64 r1) .no]) : EntOK Tryd.prog T ⟨36, e_aDecode s⟩ := by
  refine ⟨go_aDecode, fun R ds K r h => ?_, fun R ds K => ?_⟩
  · simp only [e_aDecode] at h
    split at h
    · obtain ⟨r0, r1, h1, h2⟩ := bnd2_some h
      exact ⟨_, h2, hs _ _ _ h1⟩
    · cases h
  · simp only [e_aDecode]
    split
    · rw [bnd2_b]; rfl
    · rfl
theorem co_aDecode (N : Nat) : CxOK Tryd.prog (cx_aDecode N) :=
  cxOK_of2 (es := [⟨63, e_Decode (s_Decode N)⟩, ⟨64, e_adecode (s_adecode N N)⟩, ⟨30, e_aCheckRules (s_aCheckRules N)⟩]) (me := []) (ms := []) T_ok ⟨eo_Decode _ (p_Decode N), eo_adecode _ (p_adecode N N), eo_aCheckRules _ (p_aCheckRules N), trivial⟩ trivial trivial rfl (fun _ _ _ _ => rfl) (fun _ _ _ _ _ _ => rfl) rfl
theorem lk_aDecode_6 (N : Nat) : LoopOK (cx_aDecode N) 65 (loopN Tryd.f36 0) := by
  refine loopOK_of (rid := 6) (by kernel_rfl) rfl rfl fun R ds m K r h => ?_
  have h : l_aDecode_6 N ds m K = some r := h
  unfold l_aDecode_6 at h
  split at h
  · exact ⟨N, Eq.trans (S_aDecode_6_ok ..) h⟩
  · cases h
theorem lo_aDecode (N : Nat) : LoopsOK (cx_aDecode N) Tryd.f36.ntmps (bodyOf Tryd.f36) :=
  loopsOK_of (k := 1) (by kernel_rfl) ⟨trivial, lk_aDecode_6 N⟩
theorem p_aDecode (N : Nat) (x0 : List UInt8) (r0 : List V) (r1 : Int) (h : s_aDecode N x0 = some (r0, r1)) : PureRet Tryd.prog T 36 [.v (.bytes x0) .no] [.v (.sl 53 r0) .no, .v (.int .i64 r1) .no] :=
  pure_of (cx := cx_aDecode N) (by kernel_rfl) (co_aDecode N) Tryd.func36 (by kernel_rfl) (by kernel_rfl) (lo_aDecode N) rfl rfl rfl (rf := r_aDecode) ((s_aDecode_ok N x0).trans h) (fun rs' m h => by
    unfold r_aDecode at h
    split at h
    · cases h; exact ⟨rfl, rfl⟩
    · cases h)
noncomputable def e_nodeOf {R : Type} (s : Int → Int → List V → Option (Int × Int × Int)) (ds : List D) (K : List D → Option R) : Option R :=
  match ds with
  | [.agg [.v (.int .i64 x0) .no, .v (.int .i64 x1) .no, .v (.sl 24 x2) .no]] => bnd3 (s x0 x1 x2) fun r0 r1 r2 => K [.agg [.v (.int .i64 r0) .no, .v (.int .i64 r1) .no, .v (.int .i64 r2) .no]]
  | _ => none
noncomputable def r_nodeOf (rs : List D) (_ : Mem) : Option (Int × Int × Int) :=
  match rs with
  | [.agg [.v (.int .i64 r0) _, .v (.int .i64 r1) _, .v (.int .i64 r2) _]] => some (r0, r1, r2)
  | _ => none
noncomputable def s_nodeOf (N : Nat) (x0 : Int) (x1 : Int) (x2 : List V) : Option (Int × Int × Int) :=
  some (x0, x1, (↑x2.length : Int))
noncomputable def cx_nodeOf (N : Nat) : Cx := { T := T, isPure := tabP [], pureK := fun g ds K => tabK [] g ds K, memK := fun g dst ds m K => tabMK [] g dst ds m K, meth := tabM [], keep := fun _ => [], keepX := fun _ => [], loopT := fun _ _ _ _ => none, jumps := 9 }
theorem s_nodeOf_ok (N : Nat) (x0 : Int) (x1 : Int) (x2 : List V) : bodyK (cx_nodeOf N) Tryd.f86 [.agg [.v (.int .i64 x0) .no, .v (.int .i64 x1) .no, .v (.sl 24 x2) .no]] [] r_nodeOf = s_nodeOf N x0 x1 x2 := by
  kernel_rfl
theorem go_nodeOf : Goes Tryd.prog 86 := goes_of Tryd.func86 (by kernel_rfl) (c := bodyOf Tryd.f86) (by kernel_rfl)
theorem eo_nodeOf (s : Int → Int → List V → Option (Int × Int × Int)) (hs : ∀ (x0 : Int) (x1 : Int) (x2 : List V) (r0 : Int) (r1 : Int) (r2 : Int), s x0 x1 x2 = some (r0, r1, r2) → PureRet Tryd.prog T 86 [.agg [.v (.int .i64 x0) .no, .v (.int .i64 x1) .no, .v (.sl 24 x2) .no]] [.agg [.v (.int .i64 r0) .no, .v (.int .i64 r1) .no, .v (.int .i64 r2) .no]]) : EntOK Tryd.prog T ⟨86, e_nodeOf s⟩ := by
  refine ⟨go_nodeOf, fun R ds K r h => ?_, fun R ds K => ?_⟩
  · simp only [e_nodeOf] at h
    split at h
    · obtain ⟨r0, r1, r2, h1, h2⟩ := bnd3_some h
      exact ⟨_, h2, hs _ _ _ _ _ _ h1⟩
    · cases h
  · simp only [e_nodeOf]
    split
    · rw [bnd3_b]; rfl
    · rfl
theorem co_nodeOf (N : Nat) : CxOK Tryd.prog (cx_nodeOf N) :=
  cxOK_of2 (es := []) (me := []) (ms := []) T_ok trivial trivial trivial rfl (fun _ _ _ _ => rfl) (fun _ _ _ _ _ _ => rfl) rfl
theorem lo_nodeOf (N : Nat) : LoopsOK (cx_nodeOf N) Tryd.f86.ntmps (bodyOf Tryd.f86) :=
  loopsOK_of (k := 0) (by kernel_rfl) trivial
theorem p_nodeOf (N : Nat) (x0 : Int) (x1 : Int) (x2 : List V) (r0 : Int) (r1 : Int) (r2 : Int) (h : s_nodeOf N x0 x1 x2 = some (r0, r1, r2)) : PureRet Tryd.prog T 86 [.agg [.v (.int .i64 x0) .no, .v (.int .i64 x1) .no, .v (.sl 24 x2) .no]] [.agg [.v (.int .i64 r0) .no, .v (.int .i64 r1) .no, .v (.int .i64 r2) .no]] :=
  pure_of (cx := cx_nodeOf N) (by kernel_rfl) (co_nodeOf N) Tryd.func86 (by kernel_rfl) (by kernel_rfl) (lo_nodeOf N) rfl rfl rfl (rf := r_nodeOf) ((s_nodeOf_ok N x0 x1 x2).trans h) (fun rs' m h => by
    unfold r_nodeOf at h
    split at h
    · cases h; exact ⟨rfl, rfl⟩
    · cases h)
end Go.Proofs.YtahemenhcoedgaaDoor.En
