/- Several texts in one. -/
import Derived.Test.YtomdjcodgkoapaaI3
import Derived.Test.YtomdjcodgkoapaaI2
import Derived.ProofKit
import Derived.OpenShut
import Derived.ChangeOld
import Derived.Below
import Derived.Deep.AppendLies
import Derived.Test.YtomdjcodgkoapaaRows
import Derived.ShutString
import Derived.Lib.SmallJoins

set_option linter.unusedSimpArgs false
set_option linter.unusedVariables false
set_option linter.unusedSectionVars false
/- Functions of the program in plain Lean, joined to the program by evaluation; printed by a program. -/
namespace Go.Proofs.Ytomdjcodgkoapaa.En
open Go Go.Proofs
set_option maxRecDepth 100000
set_option linter.unusedVariables false
noncomputable def e_Hex {R : Type} (s : List UInt8 → Option (List UInt8)) (ds : List D) (K : List D → Option R) : Option R :=
  match ds with
  | [.v (.bytes x0) .no] => bnd1 (s x0) fun r0 => K [.v (.str r0) .no]
  | _ => none
noncomputable def r_Hex (rs : List D) (_ : Mem) : Option (List UInt8) :=
  match rs with
  | [.v (.str r0) _] => some (r0)
  | _ => none
noncomputable def F_Hex_3 {R : Type} (N : Nat) (l1 : List UInt8) (n2 : Int) (Lq : List UInt8 → Int → Option R) (K0 : List UInt8 → Option R) (l0 : List UInt8) (n3 : Int) : Option R :=
  br (decide (n3 < n2))
  (br (decide (0 ≤ n3) && decide (n3 < (↑l1.length : Int)))
    (at? l1 n3.toNat fun u0 =>
      br (decide (0 ≤ shrI IntKind.u8 (↑u0.toNat : Int) 4) && decide (shrI IntKind.u8 (↑u0.toNat : Int) 4 < 16))
        (at? ([48, 49, 50, 51, 52, 53, 54, 55, 56, 57, 97, 98, 99, 100, 101, 102] : List UInt8) (shrI IntKind.u8 (↑u0.toNat : Int) 4).toNat fun u1 =>
          br (decide (bitsI BinOp.and IntKind.u8 (↑u0.toNat : Int) 15 < 16))
            (at? ([48, 49, 50, 51, 52, 53, 54, 55, 56, 57, 97, 98, 99, 100, 101, 102] : List UInt8) (bitsI BinOp.and IntKind.u8 (↑u0.toNat : Int) 15).toNat fun u2 =>
              br (decide ((l0.length + [UInt8.ofNat (↑u1.toNat : Int).toNat, UInt8.ofNat (↑u2.toNat : Int).toNat].length) * 1 ≤ 140737488355328))
                (Lq (l0 ++ [UInt8.ofNat (↑u1.toNat : Int).toNat, UInt8.ofNat (↑u2.toNat : Int).toNat]) (IntKind.i64.wrap (n3 + 1))) none)
            none)
        none)
    none)
  (K0 l0)
noncomputable def S_Hex_3 {R : Type} (N : Nat) (l1 : List UInt8) (n2 : Int) : Nat → List UInt8 → Int → (List UInt8 → Option R) → Option R
  | 0, _, _, _ => none
  | t + 1, l0, n3, K0 => F_Hex_3 N l1 n2 (fun l0 n3 => S_Hex_3 N l1 n2 t l0 n3 K0) K0 l0 n3
noncomputable def l_Hex_3 {R : Type} (N : Nat) (ds : List D) (m : Mem) (K : Ex → List D → Mem → Option R) : Option R :=
  match ds, m with
  | [(.v (.bytes l0) (.own (.slot 3) 5)), (.v (.bytes l1) .no), (.v (.int .i64 n2) .no), (.v (.int .i64 n3) .no)], [[]] => S_Hex_3 N l1 n2 N l0 n3 (fun a0 => K (.exit 0) [(.v (.bytes a0) (.own (.slot 3) 5))] [[]])
  | _, _ => none
noncomputable def s_Hex (N : Nat) (x0 : List UInt8) : Option (List UInt8) :=
  br (decide (0 ≤ IntKind.i64.wrap (2 * (↑x0.length : Int))) && decide (IntKind.i64.wrap (2 * (↑x0.length : Int)) * 1 ≤ 140737488355328))
  (S_Hex_3 N x0 (↑x0.length : Int) N [] 0 fun l0 => br (decide (l0.length ≤ 9223372036854775807)) (some l0) none) none
noncomputable def cx_Hex (N : Nat) : Cx := { T := T, isPure := tabP [], pureK := fun g ds K => tabK [] g ds K, memK := fun g dst ds m K => tabMK [] g dst ds m K, meth := tabM [], keep := fun r => match r with | 3 => [3, 10, 11, 12] | _ => [], keepX := fun r => match r with | 3 => [3] | _ => [], loopT := fun r ds m K => match r with | 3 => l_Hex_3 N ds m K | _ => none, jumps := 9 }
theorem F_Hex_3_ok {R : Type} (N : Nat) (l1 : List UInt8) (n2 : Int) (l0 : List UInt8) (n3 : Int) (L : List D → Mem → Option R) (K : Ex → List D → Mem → Option R) :
    roundK (fun st K => codeK (cx_Hex N) (loopN Try.f11 0) st K) 28 [3, 10, 11, 12] [3] L [(.v (.bytes l0) (.own (.slot 3) 5)), (.v (.bytes l1) .no), (.v (.int .i64 n2) .no), (.v (.int .i64 n3) .no)] [[]] K = F_Hex_3 N l1 n2 (fun l0 n3 => L [(.v (.bytes l0) (.own (.slot 3) 5)), (.v (.bytes l1) .no), (.v (.int .i64 n2) .no), (.v (.int .i64 n3) .no)] [[]]) (fun a0 => K (.exit 0) [(.v (.bytes a0) (.own (.slot 3) 5))] [[]]) l0 n3 := by
  kernel_rfl
theorem S_Hex_3_ok {R : Type} (N : Nat) (l1 : List UInt8) (n2 : Int) (K : Ex → List D → Mem → Option R) : ∀ (t : Nat) (l0 : List UInt8) (n3 : Int),
    loopK (fun st K => codeK (cx_Hex N) (loopN Try.f11 0) st K) 28 [3, 10, 11, 12] [3] t [(.v (.bytes l0) (.own (.slot 3) 5)), (.v (.bytes l1) .no), (.v (.int .i64 n2) .no), (.v (.int .i64 n3) .no)] [[]] K = S_Hex_3 N l1 n2 t l0 n3 (fun a0 => K (.exit 0) [(.v (.bytes a0) (.own (.slot 3) 5))] [[]])
  | 0, l0, n3 => rfl
  | t + 1, l0, n3 => (F_Hex_3_ok N l1 n2 l0 n3 _ K).trans (congrArg (fun L => F_Hex_3 N l1 n2 L (fun a0 => K (.exit 0) [(.v (.bytes a0) (.own (.slot 3) 5))] [[]]) l0 n3) (funext fun l0 => funext fun n3 => S_Hex_3_ok N l1 n2 K t l0 n3))
theorem s_Hex_ok (N : Nat) (x0 : List UInt8) : bodyK (cx_Hex N) Try.f11 [.v (.bytes x0) .no] [] r_Hex = s_Hex N x0 := by
  kernel_rfl
theorem go_Hex : Goes Try.prog 11 := goes_of Try.func11 (by kernel_rfl) (c := bodyOf Try.f11) (by kernel_rfl)
theorem eo_Hex (s : List UInt8 → Option (List UInt8)) (hs : ∀ (x0 : List UInt8) (r0 : List UInt8), s x0 = some r0 → PureRet Try.prog T 11 [.v (.bytes x0) .no] [.v (.str r0) .no]) : EntOK Try.prog T ⟨11, e_Hex s⟩ := by
  refine ⟨go_Hex, fun R ds K r h => ?_, fun R ds K => ?_⟩
  · simp only [e_Hex] at h
    split at h
    · obtain ⟨r0, h1, h2⟩ := bnd1_some h
      exact ⟨_, h2, hs _ _ h1⟩
    · cases h
  · simp only [e_Hex]
    split
    · rw [bnd1_b]; rfl
    · rfl
theorem co_Hex (N : Nat) : CxOK Try.prog (cx_Hex N) :=
  cxOK_of2 (es := []) (me := []) (ms := []) T_ok trivial trivial trivial rfl (fun _ _ _ _ => rfl) (fun _ _ _ _ _ _ => rfl) rfl
theorem lk_Hex_3 (N : Nat) : LoopOK (cx_Hex N) 28 (loopN Try.f11 0) := by
  refine loopOK_of (rid := 3) (by kernel_rfl) rfl rfl fun R ds m K r h => ?_
  have h : l_Hex_3 N ds m K = some r := h
  unfold l_Hex_3 at h
  split at h
  · exact ⟨N, Eq.trans (S_Hex_3_ok ..) h⟩
  · cases h
theorem lo_Hex (N : Nat) : LoopsOK (cx_Hex N) Try.f11.ntmps (bodyOf Try.f11) :=
  loopsOK_of (k := 1) (by kernel_rfl) ⟨trivial, lk_Hex_3 N⟩
theorem p_Hex (N : Nat) (x0 : List UInt8) (r0 : List UInt8) (h : s_Hex N x0 = some r0) : PureRet Try.prog T 11 [.v (.bytes x0) .no] [.v (.str r0) .no] :=
  pure_of (cx := cx_Hex N) (by kernel_rfl) (co_Hex N) Try.func11 (by kernel_rfl) (by kernel_rfl) (lo_Hex N) rfl rfl rfl (rf := r_Hex) ((s_Hex_ok N x0).trans h) (fun rs' m h => by
    unfold r_Hex at h
    split at h
    · cases h; exact ⟨rfl, rfl⟩
    · cases h)
noncomputable def e_rHex {R : Type} (s : List UInt8 → Option (List UInt8)) (ds : List D) (K : List D → Option R) : Option R :=
  match ds with
  | [.v (.bytes x0) .no] => bnd1 (s x0) fun r0 => K [.v (.str r0) .no]
  | _ => none
noncomputable def r_rHex (rs : List D) (_ : Mem) : Option (List UInt8) :=
  match rs with
  | [.v (.str r0) _] => some (r0)
  | _ => none
noncomputable def F_rHex_4 {R : Type} (N : Nat) (l0 : List UInt8) (l1 : List UInt8) (Lq : List UInt8 → Int → Option R) (K0 : List UInt8 → Option R) (l2 : List UInt8) (n3 : Int) : Option R :=
  br (decide (n3 < (↑l0.length : Int)))
  (br (decide (0 ≤ n3) && decide (n3 < (↑l0.length : Int)))
    (at? l0 n3.toNat fun u0 =>
      br (decide (0 ≤ n3) && decide (n3 < (↑l0.length : Int)))
        (at? l0 n3.toNat fun u1 =>
          br (decide (IntKind.u8.wrap (IntKind.u8.wrap ((↑u1.toNat : Int).tdiv 16) + 1) ≤ (↑l1.length : Int)))
            (br (decide (IntKind.u8.wrap ((↑u0.toNat : Int).tdiv 16) ≤ (↑(IntKind.u8.wrap (IntKind.u8.wrap ((↑u1.toNat : Int).tdiv 16) + 1)).toNat : Int)))
              (br (decide (l2.length + (List.drop (IntKind.u8.wrap ((↑u0.toNat : Int).tdiv 16)).toNat (List.take (IntKind.u8.wrap (IntKind.u8.wrap ((↑u1.toNat : Int).tdiv 16) + 1)).toNat l1)).length ≤ 9223372036854775807))
                (br (decide (0 ≤ n3) && decide (n3 < (↑l0.length : Int)))
                  (at? l0 n3.toNat fun u2 =>
                    br (decide (0 ≤ n3) && decide (n3 < (↑l0.length : Int)))
                      (at? l0 n3.toNat fun u3 =>
                        br (decide (IntKind.u8.wrap ((↑u3.toNat : Int).tmod 16 + 1) ≤ (↑l1.length : Int)))
                          (br (decide ((↑u2.toNat : Int).tmod 16 ≤ (↑(IntKind.u8.wrap ((↑u3.toNat : Int).tmod 16 + 1)).toNat : Int)))
                            (br
                              (decide
                                ((l2 ++ List.drop (IntKind.u8.wrap ((↑u0.toNat : Int).tdiv 16)).toNat (List.take (IntKind.u8.wrap (IntKind.u8.wrap ((↑u1.toNat : Int).tdiv 16) + 1)).toNat l1)).length +
                                    (List.drop ((↑u2.toNat : Int).tmod 16).toNat (List.take (IntKind.u8.wrap ((↑u3.toNat : Int).tmod 16 + 1)).toNat l1)).length ≤
                                  9223372036854775807))
                              (Lq
                                (l2 ++ List.drop (IntKind.u8.wrap ((↑u0.toNat : Int).tdiv 16)).toNat (List.take (IntKind.u8.wrap (IntKind.u8.wrap ((↑u1.toNat : Int).tdiv 16) + 1)).toNat l1) ++
                                  List.drop ((↑u2.toNat : Int).tmod 16).toNat (List.take (IntKind.u8.wrap ((↑u3.toNat : Int).tmod 16 + 1)).toNat l1))
                                (IntKind.i64.wrap (n3 + 1)))
                              none)
                            none)
                          none)
                      none)
                  none)
                none)
              none)
            none)
        none)
    none)
  (K0 l2)
noncomputable def S_rHex_4 {R : Type} (N : Nat) (l0 : List UInt8) (l1 : List UInt8) : Nat → List UInt8 → Int → (List UInt8 → Option R) → Option R
  | 0, _, _, _ => none
  | t + 1, l2, n3, K0 => F_rHex_4 N l0 l1 (fun l2 n3 => S_rHex_4 N l0 l1 t l2 n3 K0) K0 l2 n3
noncomputable def l_rHex_4 {R : Type} (N : Nat) (ds : List D) (m : Mem) (K : Ex → List D → Mem → Option R) : Option R :=
  match ds, m with
  | [(.v (.bytes l0) .no), (.v (.str l1) .no), (.v (.str l2) .no), (.v (.int .i64 n3) .no)], [[]] => S_rHex_4 N l0 l1 N l2 n3 (fun a0 => K (.exit 0) [(.v (.str a0) .no)] [[]])
  | _, _ => none
noncomputable def s_rHex (N : Nat) (x0 : List UInt8) : Option (List UInt8) :=
  S_rHex_4 N x0 ([48, 49, 50, 51, 52, 53, 54, 55, 56, 57, 97, 98, 99, 100, 101, 102] : List UInt8) N [] 0 fun l0 => some l0
noncomputable def cx_rHex (N : Nat) : Cx := { T := T, isPure := tabP [], pureK := fun g ds K => tabK [] g ds K, memK := fun g dst ds m K => tabMK [] g dst ds m K, meth := tabM [], keep := fun r => match r with | 4 => [0, 3, 4, 5] | _ => [], keepX := fun r => match r with | 4 => [4] | _ => [], loopT := fun r ds m K => match r with | 4 => l_rHex_4 N ds m K | _ => none, jumps := 9 }
theorem F_rHex_4_ok {R : Type} (N : Nat) (l0 : List UInt8) (l1 : List UInt8) (l2 : List UInt8) (n3 : Int) (L : List D → Mem → Option R) (K : Ex → List D → Mem → Option R) :
    roundK (fun st K => codeK (cx_rHex N) (loopN Try.f14 0) st K) 42 [0, 3, 4, 5] [4] L [(.v (.bytes l0) .no), (.v (.str l1) .no), (.v (.str l2) .no), (.v (.int .i64 n3) .no)] [[]] K = F_rHex_4 N l0 l1 (fun l2 n3 => L [(.v (.bytes l0) .no), (.v (.str l1) .no), (.v (.str l2) .no), (.v (.int .i64 n3) .no)] [[]]) (fun a0 => K (.exit 0) [(.v (.str a0) .no)] [[]]) l2 n3 := by
  kernel_rfl
theorem S_rHex_4_ok {R : Type} (N : Nat) (l0 : List UInt8) (l1 : List UInt8) (K : Ex → List D → Mem → Option R) : ∀ (t : Nat) (l2 : List UInt8) (n3 : Int),
    loopK (fun st K => codeK (cx_rHex N) (loopN Try.f14 0) st K) 42 [0, 3, 4, 5] [4] t [(.v (.bytes l0) .no), (.v (.str l1) .no), (.v (.str l2) .no), (.v (.int .i64 n3) .no)] [[]] K = S_rHex_4 N l0 l1 t l2 n3 (fun a0 => K (.exit 0) [(.v (.str a0) .no)] [[]])
  | 0, l2, n3 => rfl
  | t + 1, l2, n3 => (F_rHex_4_ok N l0 l1 l2 n3 _ K).trans (congrArg (fun L => F_rHex_4 N l0 l1 L (fun a0 => K (.exit 0) [(.v (.str a0) .no)] [[]]) l2 n3) (funext fun l2 => funext fun n3 => S_rHex_4_ok N l0 l1 K t l2 n3))
theorem s_rHex_ok (N : Nat) (x0 : List UInt8) : bodyK (cx_rHex N) Try.f14 [.v (.bytes x0) .no] [] r_rHex = s_rHex N x0 := by
  kernel_rfl
theorem go_rHex : Goes Try.prog 14 := goes_of Try.func14 (by kernel_rfl) (c := bodyOf Try.f14) (by kernel_rfl)
theorem eo_rHex (s : List UInt8 → Option (List UInt8)) (hs : ∀ (x0 : List UInt8) (r0 : List UInt8), s x0 = some r0 → PureRet Try.prog T 14 [.v (.bytes x0) .no] [.v (.str r0) .no]) : EntOK Try.prog T ⟨14, e_rHex s⟩ := by
  refine ⟨go_rHex, fun R ds K r h => ?_, fun R ds K => ?_⟩
  · simp only [e_rHex] at h
    split at h
    · obtain ⟨r0, h1, h2⟩ := bnd1_some h
      exact ⟨_, h2, hs _ _ h1⟩
    · cases h
  · simp only [e_rHex]
    split
    · rw [bnd1_b]; rfl
    · rfl
theorem co_rHex (N : Nat) : CxOK Try.prog (cx_rHex N) :=
  cxOK_of2 (es := []) (me := []) (ms := []) T_ok trivial trivial trivial rfl (fun _ _ _ _ => rfl) (fun _ _ _ _ _ _ => rfl) rfl
theorem lk_rHex_4 (N : Nat) : LoopOK (cx_rHex N) 42 (loopN Try.f14 0) := by
  refine loopOK_of (rid := 4) (by kernel_rfl) rfl rfl fun R ds m K r h => ?_
  have h : l_rHex_4 N ds m K = some r := h
  unfold l_rHex_4 at h
  split at h
  · exact ⟨N, Eq.trans (S_rHex_4_ok ..) h⟩
  · cases h
theorem lo_rHex (N : Nat) : LoopsOK (cx_rHex N) Try.f14.ntmps (bodyOf Try.f14) :=
  loopsOK_of (k := 1) (by kernel_rfl) ⟨trivial, lk_rHex_4 N⟩
theorem p_rHex (N : Nat) (x0 : List UInt8) (r0 : List UInt8) (h : s_rHex N x0 = some r0) : PureRet Try.prog T 14 [.v (.bytes x0) .no] [.v (.str r0) .no] :=
  pure_of (cx := cx_rHex N) (by kernel_rfl) (co_rHex N) Try.func14 (by kernel_rfl) (by kernel_rfl) (lo_rHex N) rfl rfl rfl (rf := r_rHex) ((s_rHex_ok N x0).trans h) (fun rs' m h => by
    unfold r_rHex at h
    split at h
    · cases h; exact ⟨rfl, rfl⟩
    · cases h)
noncomputable def e_binf {R : Type} (s : List UInt8 → Option (List UInt8)) (ds : List D) (K : List D → Option R) : Option R :=
  match ds with
  | [.v (.bytes x0) .no] => bnd1 (s x0) fun r0 => K [.v (.str r0) .no]
  | _ => none
noncomputable def r_binf (rs : List D) (_ : Mem) : Option (List UInt8) :=
  match rs with
  | [.v (.str r0) _] => some (r0)
  | _ => none
noncomputable def s_binf (N : Nat) (x0 : List UInt8) : Option (List UInt8) :=
  br (decide ((↑x0.length : Int) = 0)) (some ([45] : List UInt8)) (bnd1 (s_Hex N x0) fun l0 => some l0)
noncomputable def cx_binf (N : Nat) : Cx := { T := T, isPure := tabP [⟨11, e_Hex (s_Hex N)⟩], pureK := fun g ds K => tabK [⟨11, e_Hex (s_Hex N)⟩] g ds K, memK := fun g dst ds m K => tabMK [] g dst ds m K, meth := tabM [], keep := fun _ => [], keepX := fun _ => [], loopT := fun _ _ _ _ => none, jumps := 9 }
theorem s_binf_ok (N : Nat) (x0 : List UInt8) : bodyK (cx_binf N) Try.f61 [.v (.bytes x0) .no] [] r_binf = s_binf N x0 := by
  kernel_rfl
theorem go_binf : Goes Try.prog 61 := goes_of Try.func61 (by kernel_rfl) (c := bodyOf Try.f61) (by kernel_rfl)
theorem eo_binf (s : List UInt8 → Option (List UInt8)) (hs : ∀ (x0 : List UInt8) (r0 : List UInt8), s x0 = some r0 → PureRet Try.prog T 61 [.v (.bytes x0) .no] [.v (.str r0) .no]) : EntOK Try.prog T ⟨61, e_binf s⟩ := by
  refine ⟨go_binf, fun R ds K r h => ?_, fun R ds K => ?_⟩
  · simp only [e_binf] at h
    split at h
    · obtain ⟨r0, h1, h2⟩ := bnd1_some h
      exact ⟨_, h2, hs _ _ h1⟩
    · cases h
  · simp only [e_binf]
    split
    · rw [bnd1_b]; rfl
    · rfl
theorem co_binf (N : Nat) : CxOK Try.prog (cx_binf N) :=
  cxOK_of2 (es := [⟨11, e_Hex (s_Hex N)⟩]) (me := []) (ms := []) T_ok ⟨eo_Hex _ (p_Hex N), trivial⟩ trivial trivial rfl (fun _ _ _ _ => rfl) (fun _ _ _ _ _ _ => rfl) rfl
theorem lo_binf (N : Nat) : LoopsOK (cx_binf N) Try.f61.ntmps (bodyOf Try.f61) :=
  loopsOK_of (k := 0) (by kernel_rfl) trivial
theorem p_binf (N : Nat) (x0 : List UInt8) (r0 : List UInt8) (h : s_binf N x0 = some r0) : PureRet Try.prog T 61 [.v (.bytes x0) .no] [.v (.str r0) .no] :=
  pure_of (cx := cx_binf N) (by kernel_rfl) (co_binf N) Try.func61 (by kernel_rfl) (by kernel_rfl) (lo_binf N) rfl rfl rfl (rf := r_binf) ((s_binf_ok N x0).trans h) (fun rs' m h => by
    unfold r_binf at h
    split at h
    · cases h; exact ⟨rfl, rfl⟩
    · cases h)
noncomputable def e_rhex {R : Type} (s : List UInt8 → Option (List UInt8)) (ds : List D) (K : List D → Option R) : Option R :=
  match ds with
  | [.v (.bytes x0) .no] => bnd1 (s x0) fun r0 => K [.v (.str r0) .no]
  | _ => none
noncomputable def r_rhex (rs : List D) (_ : Mem) : Option (List UInt8) :=
  match rs with
  | [.v (.str r0) _] => some (r0)
  | _ => none
noncomputable def s_rhex (N : Nat) (x0 : List UInt8) : Option (List UInt8) :=
  br (decide ((↑x0.length : Int) = 0)) (some ([45] : List UInt8)) (bnd1 (s_rHex N x0) fun l0 => some l0)
noncomputable def cx_rhex (N : Nat) : Cx := { T := T, isPure := tabP [⟨14, e_rHex (s_rHex N)⟩], pureK := fun g ds K => tabK [⟨14, e_rHex (s_rHex N)⟩] g ds K, memK := fun g dst ds m K => tabMK [] g dst ds m K, meth := tabM [], keep := fun _ => [], keepX := fun _ => [], loopT := fun _ _ _ _ => none, jumps := 9 }
theorem s_rhex_ok (N : Nat) (x0 : List UInt8) : bodyK (cx_rhex N) Try.f15 [.v (.bytes x0) .no] [] r_rhex = s_rhex N x0 := by
  kernel_rfl
theorem go_rhex : Goes Try.prog 15 := goes_of Try.func15 (by kernel_rfl) (c := bodyOf Try.f15) (by kernel_rfl)
theorem eo_rhex (s : List UInt8 → Option (List UInt8)) (hs : ∀ (x0 : List UInt8) (r0 : List UInt8), s x0 = some r0 → PureRet Try.prog T 15 [.v (.bytes x0) .no] [.v (.str r0) .no]) : EntOK Try.prog T ⟨15, e_rhex s⟩ := by
  refine ⟨go_rhex, fun R ds K r h => ?_, fun R ds K => ?_⟩
  · simp only [e_rhex] at h
    split at h
    · obtain ⟨r0, h1, h2⟩ := bnd1_some h
      exact ⟨_, h2, hs _ _ h1⟩
    · cases h
  · simp only [e_rhex]
    split
    · rw [bnd1_b]; rfl
    · rfl
theorem co_rhex (N : Nat) : CxOK Try.prog (cx_rhex N) :=
  cxOK_of2 (es := [⟨14, e_rHex (s_rHex N)⟩]) (me := []) (ms := []) T_ok ⟨eo_rHex _ (p_rHex N), trivial⟩ trivial trivial rfl (fun _ _ _ _ => rfl) (fun _ _ _ _ _ _ => rfl) rfl
theorem lo_rhex (N : Nat) : LoopsOK (cx_rhex N) Try.f15.ntmps (bodyOf Try.f15) :=
  loopsOK_of (k := 0) (by kernel_rfl) trivial
theorem p_rhex (N : Nat) (x0 : List UInt8) (r0 : List UInt8) (h : s_rhex N x0 = some r0) : PureRet Try.prog T 15 [.v (.bytes x0) .no] [.v (.str r0) .no] :=
  pure_of (cx := cx_rhex N) (by kernel_rfl) (co_rhex N) Try.func15 (by kernel_rfl) (by kernel_rfl) (lo_rhex N) rfl rfl rfl (rf := r_rhex) ((s_rhex_ok N x0).trans h) (fun rs' m h => by
    unfold r_rhex at h
    split at h
    · cases h; exact ⟨rfl, rfl⟩
    · cases h)
noncomputable def e_small {R : Type} (s : Int → Option (List UInt8)) (ds : List D) (K : List D → Option R) : Option R :=
  match ds with
  | [.v (.int .i64 x0) .no] => bnd1 (s x0) fun r0 => K [.v (.str r0) .no]
  | _ => none
noncomputable def r_small (rs : List D) (_ : Mem) : Option (List UInt8) :=
  match rs with
  | [.v (.str r0) _] => some (r0)
  | _ => none
noncomputable def s_small (N : Nat) (x0 : Int) : Option (List UInt8) :=
  br (decide (x0 < 10))
  (br (decide (0 ≤ IntKind.i64.wrap (x0 + 1)) && decide (IntKind.i64.wrap (x0 + 1) ≤ 36))
    (br (decide (0 ≤ x0) && decide (x0 ≤ (↑(IntKind.i64.wrap (x0 + 1)).toNat : Int)))
      (some
        (List.drop x0.toNat
          (List.take (IntKind.i64.wrap (x0 + 1)).toNat ([48, 49, 50, 51, 52, 53, 54, 55, 56, 57, 97, 98, 99, 100, 101, 102, 103, 104, 105, 106, 107, 108, 109, 110, 111, 112, 113, 114, 115, 116, 117, 118, 119, 120, 121, 122] : List UInt8))))
      none)
    none)
  (br (decide (0 ≤ IntKind.i64.wrap (IntKind.i64.wrap (x0 * 2) + 2)) && decide (IntKind.i64.wrap (IntKind.i64.wrap (x0 * 2) + 2) ≤ 200))
    (br (decide (0 ≤ IntKind.i64.wrap (x0 * 2)) && decide (IntKind.i64.wrap (x0 * 2) ≤ (↑(IntKind.i64.wrap (IntKind.i64.wrap (x0 * 2) + 2)).toNat : Int)))
      (some
        (List.drop (IntKind.i64.wrap (x0 * 2)).toNat
          (List.take (IntKind.i64.wrap (IntKind.i64.wrap (x0 * 2) + 2)).toNat
            ([48, 48, 48, 49, 48, 50, 48, 51, 48, 52, 48, 53, 48, 54, 48, 55, 48, 56, 48, 57, 49, 48, 49, 49, 49, 50, 49, 51, 49, 52, 49, 53, 49, 54, 49, 55, 49, 56, 49, 57, 50, 48, 50, 49, 50, 50, 50, 51, 50, 52, 50, 53, 50, 54, 50, 55, 50,
              56, 50, 57, 51, 48, 51, 49, 51, 50, 51, 51, 51, 52, 51, 53, 51, 54, 51, 55, 51, 56, 51, 57, 52, 48, 52, 49, 52, 50, 52, 51, 52, 52, 52, 53, 52, 54, 52, 55, 52, 56, 52, 57, 53, 48, 53, 49, 53, 50, 53, 51, 53, 52, 53, 53, 53,
              54, 53, 55, 53, 56, 53, 57, 54, 48, 54, 49, 54, 50, 54, 51, 54, 52, 54, 53, 54, 54, 54, 55, 54, 56, 54, 57, 55, 48, 55, 49, 55, 50, 55, 51, 55, 52, 55, 53, 55, 54, 55, 55, 55, 56, 55, 57, 56, 48, 56, 49, 56, 50, 56, 51, 56,
              52, 56, 53, 56, 54, 56, 55, 56, 56, 56, 57, 57, 48, 57, 49, 57, 50, 57, 51, 57, 52, 57, 53, 57, 54, 57, 55, 57, 56, 57, 57] : List UInt8))))
      none)
    none)
noncomputable def cx_small (N : Nat) : Cx := { T := T, isPure := tabP [], pureK := fun g ds K => tabK [] g ds K, memK := fun g dst ds m K => tabMK [] g dst ds m K, meth := tabM [], keep := fun _ => [], keepX := fun _ => [], loopT := fun _ _ _ _ => none, jumps := 9 }
theorem s_small_ok (N : Nat) (x0 : Int) : bodyK (cx_small N) Try.f64 [.v (.int .i64 x0) .no] [] r_small = s_small N x0 := by
  kernel_rfl
theorem go_small : Goes Try.prog 64 := goes_of Try.func64 (by kernel_rfl) (c := bodyOf Try.f64) (by kernel_rfl)
theorem eo_small (s : Int → Option (List UInt8)) (hs : ∀ (x0 : Int) (r0 : List UInt8), s x0 = some r0 → PureRet Try.prog T 64 [.v (.int .i64 x0) .no] [.v (.str r0) .no]) : EntOK Try.prog T ⟨64, e_small s⟩ := by
  refine ⟨go_small, fun R ds K r h => ?_, fun R ds K => ?_⟩
  · simp only [e_small] at h
    split at h
    · obtain ⟨r0, h1, h2⟩ := bnd1_some h
      exact ⟨_, h2, hs _ _ h1⟩
    · cases h
  · simp only [e_small]
    split
    · rw [bnd1_b]; rfl
    · rfl
theorem co_small (N : Nat) : CxOK Try.prog (cx_small N) :=
  cxOK_of2 (es := []) (me := []) (ms := []) T_ok trivial trivial trivial rfl (fun _ _ _ _ => rfl) (fun _ _ _ _ _ _ => rfl) rfl
theorem lo_small (N : Nat) : LoopsOK (cx_small N) Try.f64.ntmps (bodyOf Try.f64) :=
  loopsOK_of (k := 0) (by kernel_rfl) trivial
theorem p_small (N : Nat) (x0 : Int) (r0 : List UInt8) (h : s_small N x0 = some r0) : PureRet Try.prog T 64 [.v (.int .i64 x0) .no] [.v (.str r0) .no] :=
  pure_of (cx := cx_small N) (by kernel_rfl) (co_small N) Try.func64 (by kernel_rfl) (by kernel_rfl) (lo_small N) rfl rfl rfl (rf := r_small) ((s_small_ok N x0).trans h) (fun rs' m h => by
    unfold r_small at h
    split at h
    · cases h; exact ⟨rfl, rfl⟩
    · cases h)
noncomputable def e_FormatInt {R : Type} (s : Int → Int → Option (List UInt8)) (ds : List D) (K : List D → Option R) : Option R :=
  match ds with
  | [.v (.int .i64 x0) .no, .v (.int .i64 x1) .no] => bnd1 (s x0 x1) fun r0 => K [.v (.str r0) .no]
  | _ => none
noncomputable def r_FormatInt (rs : List D) (_ : Mem) : Option (List UInt8) :=
  match rs with
  | [.v (.str r0) _] => some (r0)
  | _ => none
noncomputable def s_FormatInt (N : Nat) (x0 : Int) (x1 : Int) : Option (List UInt8) :=
  br (decide (x1 = 10)) (br (decide (0 ≤ x0)) (br (decide (x0 < 100)) (bnd1 (s_small N x0) fun l0 => some l0) (br (decide (x0 < 0)) none none)) (br (decide (x0 < 0)) none none)) none
noncomputable def cx_FormatInt (N : Nat) : Cx := { T := T, isPure := tabP [⟨64, e_small (s_small N)⟩], pureK := fun g ds K => tabK [⟨64, e_small (s_small N)⟩] g ds K, memK := fun g dst ds m K => tabMK [] g dst ds m K, meth := tabM [], keep := fun _ => [], keepX := fun _ => [], loopT := fun _ _ _ _ => none, jumps := 9 }
theorem s_FormatInt_ok (N : Nat) (x0 : Int) (x1 : Int) : bodyK (cx_FormatInt N) Try.f63 [.v (.int .i64 x0) .no, .v (.int .i64 x1) .no] [] r_FormatInt = s_FormatInt N x0 x1 := by
  kernel_rfl
theorem go_FormatInt : Goes Try.prog 63 := goes_of Try.func63 (by kernel_rfl) (c := bodyOf Try.f63) (by kernel_rfl)
theorem eo_FormatInt (s : Int → Int → Option (List UInt8)) (hs : ∀ (x0 : Int) (x1 : Int) (r0 : List UInt8), s x0 x1 = some r0 → PureRet Try.prog T 63 [.v (.int .i64 x0) .no, .v (.int .i64 x1) .no] [.v (.str r0) .no]) : EntOK Try.prog T ⟨63, e_FormatInt s⟩ := by
  refine ⟨go_FormatInt, fun R ds K r h => ?_, fun R ds K => ?_⟩
  · simp only [e_FormatInt] at h
    split at h
    · obtain ⟨r0, h1, h2⟩ := bnd1_some h
      exact ⟨_, h2, hs _ _ _ h1⟩
    · cases h
  · simp only [e_FormatInt]
    split
    · rw [bnd1_b]; rfl
    · rfl
theorem co_FormatInt (N : Nat) : CxOK Try.prog (cx_FormatInt N) :=
  cxOK_of2 (es := [⟨64, e_small (s_small N)⟩]) (me := []) (ms := []) T_ok ⟨eo_small _ (p_small N), trivial⟩ trivial trivial rfl (fun _ _ _ _ => rfl) (fun _ _ _ _ _ _ => rfl) rfl
theorem lo_FormatInt (N : Nat) : LoopsOK (cx_FormatInt N) Try.f63.ntmps (bodyOf Try.f63) :=
  loopsOK_of (k := 0) (by kernel_rfl) trivial
theorem p_FormatInt (N : Nat) (x0 : Int) (x1 : Int) (r0 : List UInt8) (h : s_FormatInt N x0 x1 = some r0) : PureRet Try.prog T 63 [.v (.int .i64 x0) .no, .v (.int .i64 x1) .no] [.v (.str r0) .no] :=
  pure_of (cx := cx_FormatInt N) (by kernel_rfl) (co_FormatInt N) Try.func63 (by kernel_rfl) (by kernel_rfl) (lo_FormatInt N) rfl rfl rfl (rf := r_FormatInt) ((s_FormatInt_ok N x0 x1).trans h) (fun rs' m h => by
    unfold r_FormatInt at h
    split at h
    · cases h; exact ⟨rfl, rfl⟩
    · cases h)
noncomputable def e_iItoa {R : Type} (s : Int → Option (List UInt8)) (ds : List D) (K : List D → Option R) : Option R :=
  match ds with
  | [.v (.int .i64 x0) .no] => bnd1 (s x0) fun r0 => K [.v (.str r0) .no]
  | _ => none
noncomputable def r_iItoa (rs : List D) (_ : Mem) : Option (List UInt8) :=
  match rs with
  | [.v (.str r0) _] => some (r0)
  | _ => none
noncomputable def s_iItoa (N : Nat) (x0 : Int) : Option (List UInt8) :=
  bnd1 (s_FormatInt N x0 10) fun l0 => some l0
noncomputable def cx_iItoa (N : Nat) : Cx := { T := T, isPure := tabP [⟨63, e_FormatInt (s_FormatInt N)⟩], pureK := fun g ds K => tabK [⟨63, e_FormatInt (s_FormatInt N)⟩] g ds K, memK := fun g dst ds m K => tabMK [] g dst ds m K, meth := tabM [], keep := fun _ => [], keepX := fun _ => [], loopT := fun _ _ _ _ => none, jumps := 9 }
theorem s_iItoa_ok (N : Nat) (x0 : Int) : bodyK (cx_iItoa N) Try.f62 [.v (.int .i64 x0) .no] [] r_iItoa = s_iItoa N x0 := by
  kernel_rfl
theorem go_iItoa : Goes Try.prog 62 := goes_of Try.func62 (by kernel_rfl) (c := bodyOf Try.f62) (by kernel_rfl)
theorem eo_iItoa (s : Int → Option (List UInt8)) (hs : ∀ (x0 : Int) (r0 : List UInt8), s x0 = some r0 → PureRet Try.prog T 62 [.v (.int .i64 x0) .no] [.v (.str r0) .no]) : EntOK Try.prog T ⟨62, e_iItoa s⟩ := by
  refine ⟨go_iItoa, fun R ds K r h => ?_, fun R ds K => ?_⟩
  · simp only [e_iItoa] at h
    split at h
    · obtain ⟨r0, h1, h2⟩ := bnd1_some h
      exact ⟨_, h2, hs _ _ h1⟩
    · cases h
  · simp only [e_iItoa]
    split
    · rw [bnd1_b]; rfl
    · rfl
theorem co_iItoa (N : Nat) : CxOK Try.prog (cx_iItoa N) :=
  cxOK_of2 (es := [⟨63, e_FormatInt (s_FormatInt N)⟩]) (me := []) (ms := []) T_ok ⟨eo_FormatInt _ (p_FormatInt N), trivial⟩ trivial trivial rfl (fun _ _ _ _ => rfl) (fun _ _ _ _ _ _ => rfl) rfl
theorem lo_iItoa (N : Nat) : LoopsOK (cx_iItoa N) Try.f62.ntmps (bodyOf Try.f62) :=
  loopsOK_of (k := 0) (by kernel_rfl) trivial
theorem p_iItoa (N : Nat) (x0 : Int) (r0 : List UInt8) (h : s_iItoa N x0 = some r0) : PureRet Try.prog T 62 [.v (.int .i64 x0) .no] [.v (.str r0) .no] :=
  pure_of (cx := cx_iItoa N) (by kernel_rfl) (co_iItoa N) Try.func62 (by kernel_rfl) (by kernel_rfl) (lo_iItoa N) rfl rfl rfl (rf := r_iItoa) ((s_iItoa_ok N x0).trans h) (fun rs' m h => by
    unfold r_iItoa at h
    split at h
    · cases h; exact ⟨rfl, rfl⟩
    · cases h)
noncomputable def e_Itoa {R : Type} (s : Int → Option (List UInt8)) (ds : List D) (K : List D → Option R) : Option R :=
  match ds with
  | [.v (.int .i64 x0) .no] => bnd1 (s x0) fun r0 => K [.v (.str r0) .no]
  | _ => none
noncomputable def r_Itoa (rs : List D) (_ : Mem) : Option (List UInt8) :=
  match rs with
  | [.v (.str r0) _] => some (r0)
  | _ => none
noncomputable def s_Itoa (N : Nat) (x0 : Int) : Option (List UInt8) :=
  bnd1 (s_iItoa N x0) fun l0 => some l0
noncomputable def cx_Itoa (N : Nat) : Cx := { T := T, isPure := tabP [⟨62, e_iItoa (s_iItoa N)⟩], pureK := fun g ds K => tabK [⟨62, e_iItoa (s_iItoa N)⟩] g ds K, memK := fun g dst ds m K => tabMK [] g dst ds m K, meth := tabM [], keep := fun _ => [], keepX := fun _ => [], loopT := fun _ _ _ _ => none, jumps := 9 }
theorem s_Itoa_ok (N : Nat) (x0 : Int) : bodyK (cx_Itoa N) Try.f60 [.v (.int .i64 x0) .no] [] r_Itoa = s_Itoa N x0 := by
  kernel_rfl
theorem go_Itoa : Goes Try.prog 60 := goes_of Try.func60 (by kernel_rfl) (c := bodyOf Try.f60) (by kernel_rfl)
theorem eo_Itoa (s : Int → Option (List UInt8)) (hs : ∀ (x0 : Int) (r0 : List UInt8), s x0 = some r0 → PureRet Try.prog T 60 [.v (.int .i64 x0) .no] [.v (.str r0) .no]) : EntOK Try.prog T ⟨60, e_Itoa s⟩ := by
  refine ⟨go_Itoa, fun R ds K r h => ?_, fun R ds K => ?_⟩
  · simp only [e_Itoa] at h
    split at h
    · obtain ⟨r0, h1, h2⟩ := bnd1_some h
      exact ⟨_, h2, hs _ _ h1⟩
    · cases h
  · simp only [e_Itoa]
    split
    · rw [bnd1_b]; rfl
    · rfl
theorem co_Itoa (N : Nat) : CxOK Try.prog (cx_Itoa N) :=
  cxOK_of2 (es := [⟨62, e_iItoa (s_iItoa N)⟩]) (me := []) (ms := []) T_ok ⟨eo_iItoa _ (p_iItoa N), trivial⟩ trivial trivial rfl (fun _ _ _ _ => rfl) (fun _ _ _ _ _ _ => rfl) rfl
theorem lo_Itoa (N : Nat) : LoopsOK (cx_Itoa N) Try.f60.ntmps (bodyOf Try.f60) :=
  loopsOK_of (k := 0) (by kernel_rfl) trivial
theorem p_Itoa (N : Nat) (x0 : Int) (r0 : List UInt8) (h : s_Itoa N x0 = some r0) : PureRet Try.prog T 60 [.v (.int .i64 x0) .no] [.v (.str r0) .no] :=
  pure_of (cx := cx_Itoa N) (by kernel_rfl) (co_Itoa N) Try.func60 (by kernel_rfl) (by kernel_rfl) (lo_Itoa N) rfl rfl rfl (rf := r_Itoa) ((s_Itoa_ok N x0).trans h) (fun rs' m h => by
    unfold r_Itoa at h
    split at h
    · cases h; exact ⟨rfl, rfl⟩
    · cases h)
noncomputable def e_rCheck {R : Type} (s : Int → Int → Int → Bool → Int → Bool → List UInt8 → Option (Int)) (ds : List D) (K : List D → Option R) : Option R :=
  match ds with
  | [.agg [.v (.int .i64 x0) .no, .v (.int .i64 x1) .no, .v (.int .i64 x2) .no, .v (.bool x3) .no, .v (.int .i64 x4) .no, .v (.bool x5) .no, .v (.bytes x6) .no]] => bnd1 (s x0 x1 x2 x3 x4 x5 x6) fun r0 => K [.v (.int .i64 r0) .no]
  | _ => none
theorem go_rCheck : Goes Try.prog 13 := goes_of Try.func13 (by kernel_rfl) (c := bodyOf Try.f13) (by kernel_rfl)
theorem eo_rCheck (s : Int → Int → Int → Bool → Int → Bool → List UInt8 → Option (Int)) (hs : ∀ (x0 : Int) (x1 : Int) (x2 : Int) (x3 : Bool) (x4 : Int) (x5 : Bool) (x6 : List UInt8) (r0 : Int), s x0 x1 x2 x3 x4 x5 x6 = some r0 → PureRet Try.prog T 13 [.agg [.v (.int .i64 x0) .no, .v (.int .i64 x1) .no, .v (.int .i64 x2) .no, .v (.bool x3) .no, .v (.int .i64 x4) .no, .v (.bool x5) .no, .v (.bytes x6) .no]] [.v (.int .i64 r0) .no]) : EntOK Try.prog T ⟨13, e_rCheck s⟩ := by
  refine ⟨go_rCheck, fun R ds K r h => ?_, fun R ds K => ?_⟩
  · simp only [e_rCheck] at h
    split at h
    · obtain ⟨r0, h1, h2⟩ := bnd1_some h
      exact ⟨_, h2, hs _ _ _ _ _ _ _ _ h1⟩
    · cases h
  · simp only [e_rCheck]
    split
    · rw [bnd1_b]; rfl
    · rfl
noncomputable def e_rSame6 {R : Type} (s : Int → Int → Int → Bool → Int → Bool → List UInt8 → Int → Int → Int → Bool → Int → Bool → List UInt8 → Option (Bool)) (ds : List D) (K : List D → Option R) : Option R :=
  match ds with
  | [.agg [.v (.int .i64 x0) .no, .v (.int .i64 x1) .no, .v (.int .i64 x2) .no, .v (.bool x3) .no, .v (.int .i64 x4) .no, .v (.bool x5) .no, .v (.bytes x6) .no], .agg [.v (.int .i64 x7) .no, .v (.int .i64 x8) .no, .v (.int .i64 x9) .no, .v (.bool x10) .no, .v (.int .i64 x11) .no, .v (.bool x12) .no, .v (.bytes x13) .no]] => bnd1 (s x0 x1 x2 x3 x4 x5 x6 x7 x8 x9 x10 x11 x12 x13) fun r0 => K [.v (.bool r0) .no]
  | _ => none
theorem go_rSame6 : Goes Try.prog 6 := goes_of Try.func6 (by kernel_rfl) (c := bodyOf Try.f6) (by kernel_rfl)
theorem eo_rSame6 (s : Int → Int → Int → Bool → Int → Bool → List UInt8 → Int → Int → Int → Bool → Int → Bool → List UInt8 → Option (Bool)) (hs : ∀ (x0 : Int) (x1 : Int) (x2 : Int) (x3 : Bool) (x4 : Int) (x5 : Bool) (x6 : List UInt8) (x7 : Int) (x8 : Int) (x9 : Int) (x10 : Bool) (x11 : Int) (x12 : Bool) (x13 : List UInt8) (r0 : Bool), s x0 x1 x2 x3 x4 x5 x6 x7 x8 x9 x10 x11 x12 x13 = some r0 → PureRet Try.prog T 6 [.agg [.v (.int .i64 x0) .no, .v (.int .i64 x1) .no, .v (.int .i64 x2) .no, .v (.bool x3) .no, .v (.int .i64 x4) .no, .v (.bool x5) .no, .v (.bytes x6) .no], .agg [.v (.int .i64 x7) .no, .v (.int .i64 x8) .no, .v (.int .i64 x9) .no, .v (.bool x10) .no, .v (.int .i64 x11) .no, .v (.bool x12) .no, .v (.bytes x13) .no]] [.v (.bool r0) .no]) : EntOK Try.prog T ⟨6, e_rSame6 s⟩ := by
  refine ⟨go_rSame6, fun R ds K r h => ?_, fun R ds K => ?_⟩
  · simp only [e_rSame6] at h
    split at h
    · obtain ⟨r0, h1, h2⟩ := bnd1_some h
      exact ⟨_, h2, hs _ _ _ _ _ _ _ _ _ _ _ _ _ _ _ h1⟩
    · cases h
  · simp only [e_rSame6]
    split
    · rw [bnd1_b]; rfl
    · rfl
noncomputable def e_bawake {R : Type} (s : Option (Bool)) (ds : List D) (K : List D → Option R) : Option R :=
  match ds with
  | [] => bnd1 (s) fun r0 => K [.v (.bool r0) .no]
  | _ => none
theorem go_bawake : Goes Try.prog 7 := goes_of Try.func7 (by kernel_rfl) (c := bodyOf Try.f7) (by kernel_rfl)
theorem eo_bawake (s : Option (Bool)) (hs : ∀  (r0 : Bool), s  = some r0 → PureRet Try.prog T 7 [] [.v (.bool r0) .no]) : EntOK Try.prog T ⟨7, e_bawake s⟩ := by
  refine ⟨go_bawake, fun R ds K r h => ?_, fun R ds K => ?_⟩
  · simp only [e_bawake] at h
    split at h
    · obtain ⟨r0, h1, h2⟩ := bnd1_some h
      exact ⟨_, h2, hs _ h1⟩
    · cases h
  · simp only [e_bawake]
    split
    · rw [bnd1_b]; rfl
    · rfl
noncomputable def r_wordsI (rs : List D) (_ : Mem) : Option (List V) :=
  match rs with
  | [.v (.sl 9 r0) _] => some (r0)
  | _ => none
noncomputable def s_wordsI (N : Nat) (x0 : Int) (x1 : Int) (x2 : Int) (x3 : Bool) (x4 : Int) (x5 : Bool) (x6 : List UInt8) : Option (List V) :=
  br x3 (bnd1 (s_Itoa N x2) fun l0 => bnd1 (s_binf N x6) fun l1 => some [V.str l0, V.str ([109, 111, 114, 101] : List UInt8), V.str l1]) (bnd1 (s_Itoa N x2) fun l2 => bnd1 (s_binf N x6) fun l3 => some [V.str l2, V.str ([108, 97, 115, 116] : List UInt8), V.str l3])
noncomputable def cx_wordsI (N : Nat) : Cx := { T := T, isPure := tabP [⟨60, e_Itoa (s_Itoa N)⟩, ⟨61, e_binf (s_binf N)⟩], pureK := fun g ds K => tabK [⟨60, e_Itoa (s_Itoa N)⟩, ⟨61, e_binf (s_binf N)⟩] g ds K, memK := fun g dst ds m K => tabMK [] g dst ds m K, meth := tabM [], keep := fun _ => [], keepX := fun _ => [], loopT := fun _ _ _ _ => none, jumps := 9 }
theorem s_wordsI_ok (N : Nat) (x0 : Int) (x1 : Int) (x2 : Int) (x3 : Bool) (x4 : Int) (x5 : Bool) (x6 : List UInt8) : bodyK (cx_wordsI N) Try.f58 [.agg [], .agg [.v (.int .i64 x0) .no, .v (.int .i64 x1) .no, .v (.int .i64 x2) .no, .v (.bool x3) .no, .v (.int .i64 x4) .no, .v (.bool x5) .no, .v (.bytes x6) .no]] [] r_wordsI = s_wordsI N x0 x1 x2 x3 x4 x5 x6 := by
  kernel_rfl
theorem co_wordsI (N : Nat) : CxOK Try.prog (cx_wordsI N) :=
  cxOK_of2 (es := [⟨60, e_Itoa (s_Itoa N)⟩, ⟨61, e_binf (s_binf N)⟩]) (me := []) (ms := []) T_ok ⟨eo_Itoa _ (p_Itoa N), eo_binf _ (p_binf N), trivial⟩ trivial trivial rfl (fun _ _ _ _ => rfl) (fun _ _ _ _ _ _ => rfl) rfl
theorem lo_wordsI (N : Nat) : LoopsOK (cx_wordsI N) Try.f58.ntmps (bodyOf Try.f58) :=
  loopsOK_of (k := 0) (by kernel_rfl) trivial
theorem p_wordsI (N : Nat) (x0 : Int) (x1 : Int) (x2 : Int) (x3 : Bool) (x4 : Int) (x5 : Bool) (x6 : List UInt8) (r0 : List V) (h : s_wordsI N x0 x1 x2 x3 x4 x5 x6 = some r0) : PureRet Try.prog T 58 [.agg [], .agg [.v (.int .i64 x0) .no, .v (.int .i64 x1) .no, .v (.int .i64 x2) .no, .v (.bool x3) .no, .v (.int .i64 x4) .no, .v (.bool x5) .no, .v (.bytes x6) .no]] [.v (.sl 9 r0) .no] :=
  pure_of (cx := cx_wordsI N) (by kernel_rfl) (co_wordsI N) Try.func58 (by kernel_rfl) (by kernel_rfl) (lo_wordsI N) rfl rfl rfl (rf := r_wordsI) ((s_wordsI_ok N x0 x1 x2 x3 x4 x5 x6).trans h) (fun rs' m h => by
    unfold r_wordsI at h
    split at h
    · cases h; exact ⟨rfl, rfl⟩
    · cases h)
noncomputable def r_wordsR (rs : List D) (_ : Mem) : Option (List V) :=
  match rs with
  | [.v (.sl 9 r0) _] => some (r0)
  | _ => none
noncomputable def s_wordsR (N : Nat) (x0 : Int) (x1 : Int) (x2 : Int) (x3 : Bool) (x4 : Int) (x5 : Bool) (x6 : List UInt8) : Option (List V) :=
  bnd1 (s_Itoa N x2) fun l0 => br (decide (0 ≤ x4) && decide (x4 < 3)) (at? [V.str ([102, 105, 110, 101] : List UInt8), V.str ([115, 117, 109] : List UInt8), V.str ([111, 116, 104, 101, 114] : List UInt8)] x4.toNat fun x1 => x1.unStr fun l2 => some [V.str l0, V.str l2]) none
noncomputable def cx_wordsR (N : Nat) : Cx := { T := T, isPure := tabP [⟨60, e_Itoa (s_Itoa N)⟩], pureK := fun g ds K => tabK [⟨60, e_Itoa (s_Itoa N)⟩] g ds K, memK := fun g dst ds m K => tabMK [] g dst ds m K, meth := tabM [], keep := fun _ => [], keepX := fun _ => [], loopT := fun _ _ _ _ => none, jumps := 9 }
theorem s_wordsR_ok (N : Nat) (x0 : Int) (x1 : Int) (x2 : Int) (x3 : Bool) (x4 : Int) (x5 : Bool) (x6 : List UInt8) : bodyK (cx_wordsR N) Try.f80 [.agg [], .agg [.v (.int .i64 x0) .no, .v (.int .i64 x1) .no, .v (.int .i64 x2) .no, .v (.bool x3) .no, .v (.int .i64 x4) .no, .v (.bool x5) .no, .v (.bytes x6) .no]] [] r_wordsR = s_wordsR N x0 x1 x2 x3 x4 x5 x6 := by
  kernel_rfl
theorem co_wordsR (N : Nat) : CxOK Try.prog (cx_wordsR N) :=
  cxOK_of2 (es := [⟨60, e_Itoa (s_Itoa N)⟩]) (me := []) (ms := []) T_ok ⟨eo_Itoa _ (p_Itoa N), trivial⟩ trivial trivial rfl (fun _ _ _ _ => rfl) (fun _ _ _ _ _ _ => rfl) rfl
theorem lo_wordsR (N : Nat) : LoopsOK (cx_wordsR N) Try.f80.ntmps (bodyOf Try.f80) :=
  loopsOK_of (k := 0) (by kernel_rfl) trivial
theorem p_wordsR (N : Nat) (x0 : Int) (x1 : Int) (x2 : Int) (x3 : Bool) (x4 : Int) (x5 : Bool) (x6 : List UInt8) (r0 : List V) (h : s_wordsR N x0 x1 x2 x3 x4 x5 x6 = some r0) : PureRet Try.prog T 80 [.agg [], .agg [.v (.int .i64 x0) .no, .v (.int .i64 x1) .no, .v (.int .i64 x2) .no, .v (.bool x3) .no, .v (.int .i64 x4) .no, .v (.bool x5) .no, .v (.bytes x6) .no]] [.v (.sl 9 r0) .no] :=
  pure_of (cx := cx_wordsR N) (by kernel_rfl) (co_wordsR N) Try.func80 (by kernel_rfl) (by kernel_rfl) (lo_wordsR N) rfl rfl rfl (rf := r_wordsR) ((s_wordsR_ok N x0 x1 x2 x3 x4 x5 x6).trans h) (fun rs' m h => by
    unfold r_wordsR at h
    split at h
    · cases h; exact ⟨rfl, rfl⟩
    · cases h)
noncomputable def r_wordsS (rs : List D) (_ : Mem) : Option (List V) :=
  match rs with
  | [.v (.sl 9 r0) _] => some (r0)
  | _ => none
noncomputable def s_wordsS (N : Nat) (x0 : Int) (x1 : Int) (x2 : Int) (x3 : Bool) (x4 : Int) (x5 : Bool) (x6 : List UInt8) : Option (List V) :=
  br x5
  (br (decide (0 ≤ x4) && decide (x4 < 4))
    (at? [V.str ([114, 101, 115, 121, 110, 99] : List UInt8), V.str ([105, 102, 115] : List UInt8), V.str ([97, 98, 111, 114, 116] : List UInt8), V.str ([119, 116, 120] : List UInt8)] x4.toNat fun x0 =>
      x0.unStr fun l1 => bnd1 (s_binf N x6) fun l2 => some [V.str l1, V.str ([97, 110, 115, 119, 101, 114] : List UInt8), V.str l2])
    none)
  (br (decide (0 ≤ x4) && decide (x4 < 4))
    (at? [V.str ([114, 101, 115, 121, 110, 99] : List UInt8), V.str ([105, 102, 115] : List UInt8), V.str ([97, 98, 111, 114, 116] : List UInt8), V.str ([119, 116, 120] : List UInt8)] x4.toNat fun x3 =>
      x3.unStr fun l4 => bnd1 (s_binf N x6) fun l5 => some [V.str l4, V.str ([114, 101, 113, 117, 101, 115, 116] : List UInt8), V.str l5])
    none)
noncomputable def cx_wordsS (N : Nat) : Cx := { T := T, isPure := tabP [⟨61, e_binf (s_binf N)⟩], pureK := fun g ds K => tabK [⟨61, e_binf (s_binf N)⟩] g ds K, memK := fun g dst ds m K => tabMK [] g dst ds m K, meth := tabM [], keep := fun _ => [], keepX := fun _ => [], loopT := fun _ _ _ _ => none, jumps := 9 }
theorem s_wordsS_ok (N : Nat) (x0 : Int) (x1 : Int) (x2 : Int) (x3 : Bool) (x4 : Int) (x5 : Bool) (x6 : List UInt8) : bodyK (cx_wordsS N) Try.f77 [.agg [], .agg [.v (.int .i64 x0) .no, .v (.int .i64 x1) .no, .v (.int .i64 x2) .no, .v (.bool x3) .no, .v (.int .i64 x4) .no, .v (.bool x5) .no, .v (.bytes x6) .no]] [] r_wordsS = s_wordsS N x0 x1 x2 x3 x4 x5 x6 := by
  kernel_rfl
theorem co_wordsS (N : Nat) : CxOK Try.prog (cx_wordsS N) :=
  cxOK_of2 (es := [⟨61, e_binf (s_binf N)⟩]) (me := []) (ms := []) T_ok ⟨eo_binf _ (p_binf N), trivial⟩ trivial trivial rfl (fun _ _ _ _ => rfl) (fun _ _ _ _ _ _ => rfl) rfl
theorem lo_wordsS (N : Nat) : LoopsOK (cx_wordsS N) Try.f77.ntmps (bodyOf Try.f77) :=
  loopsOK_of (k := 0) (by kernel_rfl) trivial
theorem p_wordsS (N : Nat) (x0 : Int) (x1 : Int) (x2 : Int) (x3 : Bool) (x4 : Int) (x5 : Bool) (x6 : List UInt8) (r0 : List V) (h : s_wordsS N x0 x1 x2 x3 x4 x5 x6 = some r0) : PureRet Try.prog T 77 [.agg [], .agg [.v (.int .i64 x0) .no, .v (.int .i64 x1) .no, .v (.int .i64 x2) .no, .v (.bool x3) .no, .v (.int .i64 x4) .no, .v (.bool x5) .no, .v (.bytes x6) .no]] [.v (.sl 9 r0) .no] :=
  pure_of (cx := cx_wordsS N) (by kernel_rfl) (co_wordsS N) Try.func77 (by kernel_rfl) (by kernel_rfl) (lo_wordsS N) rfl rfl rfl (rf := r_wordsS) ((s_wordsS_ok N x0 x1 x2 x3 x4 x5 x6).trans h) (fun rs' m h => by
    unfold r_wordsS at h
    split at h
    · cases h; exact ⟨rfl, rfl⟩
    · cases h)
noncomputable def e_rText {R : Type} (s : Int → Int → Int → Bool → Int → Bool → List UInt8 → Option (List UInt8)) (ds : List D) (K : List D → Option R) : Option R :=
  match ds with
  | [.agg [.v (.int .i64 x0) .no, .v (.int .i64 x1) .no, .v (.int .i64 x2) .no, .v (.bool x3) .no, .v (.int .i64 x4) .no, .v (.bool x5) .no, .v (.bytes x6) .no]] => bnd1 (s x0 x1 x2 x3 x4 x5 x6) fun r0 => K [.v (.str r0) .no]
  | _ => none
noncomputable def r_rText (rs : List D) (_ : Mem) : Option (List UInt8) :=
  match rs with
  | [.v (.str r0) _] => some (r0)
  | _ => none
noncomputable def s_rText (N : Nat) (x0 : Int) (x1 : Int) (x2 : Int) (x3 : Bool) (x4 : Int) (x5 : Bool) (x6 : List UInt8) : Option (List UInt8) :=
  bnd1 (s_rCheck N x0 x1 x2 x3 x4 x5 x6) fun n0 =>
  br (!decide (n0 = 0)) (some [])
    (bnd1 (s_rHex N [UInt8.ofNat (IntKind.u8.wrap x0).toNat]) fun l1 =>
      br (decide (1 + l1.length ≤ 9223372036854775807))
        (br (decide ((32 :: [].append l1).length + 1 ≤ 9223372036854775807))
          (br (decide (x2 = 1))
            (br (decide (x1 = 0))
              (br x3
                (br (decide (1 + (32 :: ([].append l1).append ([32] : List UInt8)).length ≤ 9223372036854775807))
                  (br (decide ((73 :: 32 :: ([].append l1).append ([32] : List UInt8)).length + 2 ≤ 9223372036854775807))
                    (br (decide ((73 :: 32 :: (([].append l1).append ([32] : List UInt8)).append ([49, 32] : List UInt8)).length + 5 ≤ 9223372036854775807))
                      (bnd1 (s_rhex N x6) fun l2 =>
                        br (decide ((73 :: 32 :: ((([].append l1).append ([32] : List UInt8)).append ([49, 32] : List UInt8)).append ([109, 111, 114, 101, 32] : List UInt8)).length + l2.length ≤ 9223372036854775807))
                          (some (73 :: 32 :: (((([].append l1).append ([32] : List UInt8)).append ([49, 32] : List UInt8)).append ([109, 111, 114, 101, 32] : List UInt8)).append l2)) none)
                      none)
                    none)
                  none)
                (br (decide (1 + (32 :: ([].append l1).append ([32] : List UInt8)).length ≤ 9223372036854775807))
                  (br (decide ((73 :: 32 :: ([].append l1).append ([32] : List UInt8)).length + 2 ≤ 9223372036854775807))
                    (br (decide ((73 :: 32 :: (([].append l1).append ([32] : List UInt8)).append ([49, 32] : List UInt8)).length + 5 ≤ 9223372036854775807))
                      (bnd1 (s_rhex N x6) fun l3 =>
                        br (decide ((73 :: 32 :: ((([].append l1).append ([32] : List UInt8)).append ([49, 32] : List UInt8)).append ([108, 97, 115, 116, 32] : List UInt8)).length + l3.length ≤ 9223372036854775807))
                          (some (73 :: 32 :: (((([].append l1).append ([32] : List UInt8)).append ([49, 32] : List UInt8)).append ([108, 97, 115, 116, 32] : List UInt8)).append l3)) none)
                      none)
                    none)
                  none))
              (br (decide (x1 = 1))
                (br (decide (1 + (32 :: ([].append l1).append ([32] : List UInt8)).length ≤ 9223372036854775807))
                  (br (decide ((82 :: 32 :: ([].append l1).append ([32] : List UInt8)).length + 2 ≤ 9223372036854775807))
                    (br (decide (0 ≤ x4) && decide (x4 < 3))
                      (at? [V.str ([102, 105, 110, 101] : List UInt8), V.str ([115, 117, 109] : List UInt8), V.str ([111, 116, 104, 101, 114] : List UInt8)] x4.toNat fun x4 =>
                        x4.unStr fun l5 => br (decide ((82 :: 32 :: (([].append l1).append ([32] : List UInt8)).append ([49, 32] : List UInt8)).length + l5.length ≤ 9223372036854775807)) (some (82 :: 32 :: ((([].append l1).append ([32] : List UInt8)).append ([49, 32] : List UInt8)).append l5)) none)
                      none)
                    none)
                  none)
                (br x5
                  (br (decide (1 + (32 :: ([].append l1).append ([32] : List UInt8)).length ≤ 9223372036854775807))
                    (br (decide (0 ≤ x4) && decide (x4 < 4))
                      (at? [V.str ([114, 101, 115, 121, 110, 99] : List UInt8), V.str ([105, 102, 115] : List UInt8), V.str ([97, 98, 111, 114, 116] : List UInt8), V.str ([119, 116, 120] : List UInt8)] x4.toNat fun x6_1 =>
                        x6_1.unStr fun l7 =>
                          br (decide ((83 :: 32 :: ([].append l1).append ([32] : List UInt8)).length + l7.length ≤ 9223372036854775807))
                            (br (decide ((83 :: 32 :: (([].append l1).append ([32] : List UInt8)).append l7).length + 8 ≤ 9223372036854775807))
                              (bnd1 (s_rhex N x6) fun l8 =>
                                br (decide ((83 :: 32 :: ((([].append l1).append ([32] : List UInt8)).append l7).append ([32, 97, 110, 115, 119, 101, 114, 32] : List UInt8)).length + l8.length ≤ 9223372036854775807))
                                  (some (83 :: 32 :: (((([].append l1).append ([32] : List UInt8)).append l7).append ([32, 97, 110, 115, 119, 101, 114, 32] : List UInt8)).append l8)) none)
                              none)
                            none)
                      none)
                    none)
                  (br (decide (1 + (32 :: ([].append l1).append ([32] : List UInt8)).length ≤ 9223372036854775807))
                    (br (decide (0 ≤ x4) && decide (x4 < 4))
                      (at? [V.str ([114, 101, 115, 121, 110, 99] : List UInt8), V.str ([105, 102, 115] : List UInt8), V.str ([97, 98, 111, 114, 116] : List UInt8), V.str ([119, 116, 120] : List UInt8)] x4.toNat fun x9 =>
                        x9.unStr fun l10 =>
                          br (decide ((83 :: 32 :: ([].append l1).append ([32] : List UInt8)).length + l10.length ≤ 9223372036854775807))
                            (br (decide ((83 :: 32 :: (([].append l1).append ([32] : List UInt8)).append l10).length + 9 ≤ 9223372036854775807))
                              (bnd1 (s_rhex N x6) fun l11 =>
                                br (decide ((83 :: 32 :: ((([].append l1).append ([32] : List UInt8)).append l10).append ([32, 114, 101, 113, 117, 101, 115, 116, 32] : List UInt8)).length + l11.length ≤ 9223372036854775807))
                                  (some (83 :: 32 :: (((([].append l1).append ([32] : List UInt8)).append l10).append ([32, 114, 101, 113, 117, 101, 115, 116, 32] : List UInt8)).append l11)) none)
                              none)
                            none)
                      none)
                    none))))
            (br (decide (x1 = 0))
              (br x3
                (br (decide (1 + (32 :: ([].append l1).append ([32] : List UInt8)).length ≤ 9223372036854775807))
                  (br (decide ((73 :: 32 :: ([].append l1).append ([32] : List UInt8)).length + 2 ≤ 9223372036854775807))
                    (br (decide ((73 :: 32 :: (([].append l1).append ([32] : List UInt8)).append ([48, 32] : List UInt8)).length + 5 ≤ 9223372036854775807))
                      (bnd1 (s_rhex N x6) fun l12 =>
                        br (decide ((73 :: 32 :: ((([].append l1).append ([32] : List UInt8)).append ([48, 32] : List UInt8)).append ([109, 111, 114, 101, 32] : List UInt8)).length + l12.length ≤ 9223372036854775807))
                          (some (73 :: 32 :: (((([].append l1).append ([32] : List UInt8)).append ([48, 32] : List UInt8)).append ([109, 111, 114, 101, 32] : List UInt8)).append l12)) none)
                      none)
                    none)
                  none)
                (br (decide (1 + (32 :: ([].append l1).append ([32] : List UInt8)).length ≤ 9223372036854775807))
                  (br (decide ((73 :: 32 :: ([].append l1).append ([32] : List UInt8)).length + 2 ≤ 9223372036854775807))
                    (br (decide ((73 :: 32 :: (([].append l1).append ([32] : List UInt8)).append ([48, 32] : List UInt8)).length + 5 ≤ 9223372036854775807))
                      (bnd1 (s_rhex N x6) fun l13 =>
                        br (decide ((73 :: 32 :: ((([].append l1).append ([32] : List UInt8)).append ([48, 32] : List UInt8)).append ([108, 97, 115, 116, 32] : List UInt8)).length + l13.length ≤ 9223372036854775807))
                          (some (73 :: 32 :: (((([].append l1).append ([32] : List UInt8)).append ([48, 32] : List UInt8)).append ([108, 97, 115, 116, 32] : List UInt8)).append l13)) none)
                      none)
                    none)
                  none))
              (br (decide (x1 = 1))
                (br (decide (1 + (32 :: ([].append l1).append ([32] : List UInt8)).length ≤ 9223372036854775807))
                  (br (decide ((82 :: 32 :: ([].append l1).append ([32] : List UInt8)).length + 2 ≤ 9223372036854775807))
                    (br (decide (0 ≤ x4) && decide (x4 < 3))
                      (at? [V.str ([102, 105, 110, 101] : List UInt8), V.str ([115, 117, 109] : List UInt8), V.str ([111, 116, 104, 101, 114] : List UInt8)] x4.toNat fun x14 =>
                        x14.unStr fun l15 =>
                          br (decide ((82 :: 32 :: (([].append l1).append ([32] : List UInt8)).append ([48, 32] : List UInt8)).length + l15.length ≤ 9223372036854775807)) (some (82 :: 32 :: ((([].append l1).append ([32] : List UInt8)).append ([48, 32] : List UInt8)).append l15)) none)
                      none)
                    none)
                  none)
                (br x5
                  (br (decide (1 + (32 :: ([].append l1).append ([32] : List UInt8)).length ≤ 9223372036854775807))
                    (br (decide (0 ≤ x4) && decide (x4 < 4))
                      (at? [V.str ([114, 101, 115, 121, 110, 99] : List UInt8), V.str ([105, 102, 115] : List UInt8), V.str ([97, 98, 111, 114, 116] : List UInt8), V.str ([119, 116, 120] : List UInt8)] x4.toNat fun x16 =>
                        x16.unStr fun l17 =>
                          br (decide ((83 :: 32 :: ([].append l1).append ([32] : List UInt8)).length + l17.length ≤ 9223372036854775807))
                            (br (decide ((83 :: 32 :: (([].append l1).append ([32] : List UInt8)).append l17).length + 8 ≤ 9223372036854775807))
                              (bnd1 (s_rhex N x6) fun l18 =>
                                br (decide ((83 :: 32 :: ((([].append l1).append ([32] : List UInt8)).append l17).append ([32, 97, 110, 115, 119, 101, 114, 32] : List UInt8)).length + l18.length ≤ 9223372036854775807))
                                  (some (83 :: 32 :: (((([].append l1).append ([32] : List UInt8)).append l17).append ([32, 97, 110, 115, 119, 101, 114, 32] : List UInt8)).append l18)) none)
                              none)
                            none)
                      none)
                    none)
                  (br (decide (1 + (32 :: ([].append l1).append ([32] : List UInt8)).length ≤ 9223372036854775807))
                    (br (decide (0 ≤ x4) && decide (x4 < 4))
                      (at? [V.str ([114, 101, 115, 121, 110, 99] : List UInt8), V.str ([105, 102, 115] : List UInt8), V.str ([97, 98, 111, 114, 116] : List UInt8), V.str ([119, 116, 120] : List UInt8)] x4.toNat fun x19 =>
                        x19.unStr fun l20 =>
                          br (decide ((83 :: 32 :: ([].append l1).append ([32] : List UInt8)).length + l20.length ≤ 9223372036854775807))
                            (br (decide ((83 :: 32 :: (([].append l1).append ([32] : List UInt8)).append l20).length + 9 ≤ 9223372036854775807))
                              (bnd1 (s_rhex N x6) fun l21 =>
                                br (decide ((83 :: 32 :: ((([].append l1).append ([32] : List UInt8)).append l20).append ([32, 114, 101, 113, 117, 101, 115, 116, 32] : List UInt8)).length + l21.length ≤ 9223372036854775807))
                                  (some (83 :: 32 :: (((([].append l1).append ([32] : List UInt8)).append l20).append ([32, 114, 101, 113, 117, 101, 115, 116, 32] : List UInt8)).append l21)) none)
                              none)
                            none)
                      none)
                    none)))))
          none)
        none)
noncomputable def cx_rText (N : Nat) : Cx := { T := T, isPure := tabP [⟨13, e_rCheck (s_rCheck N)⟩, ⟨14, e_rHex (s_rHex N)⟩, ⟨15, e_rhex (s_rhex N)⟩], pureK := fun g ds K => tabK [⟨13, e_rCheck (s_rCheck N)⟩, ⟨14, e_rHex (s_rHex N)⟩, ⟨15, e_rhex (s_rhex N)⟩] g ds K, memK := fun g dst ds m K => tabMK [] g dst ds m K, meth := tabM [], keep := fun _ => [], keepX := fun _ => [], loopT := fun _ _ _ _ => none, jumps := 9 }
theorem s_rText_ok (N : Nat) (x0 : Int) (x1 : Int) (x2 : Int) (x3 : Bool) (x4 : Int) (x5 : Bool) (x6 : List UInt8) : bodyK (cx_rText N) Try.f5 [.agg [.v (.int .i64 x0) .no, .v (.int .i64 x1) .no, .v (.int .i64 x2) .no, .v (.bool x3) .no, .v (.int .i64 x4) .no, .v (.bool x5) .no, .v (.bytes x6) .no]] [] r_rText = s_rText N x0 x1 x2 x3 x4 x5 x6 := by
  kernel_rfl
theorem go_rText : Goes Try.prog 5 := goes_of Try.func5 (by kernel_rfl) (c := bodyOf Try.f5) (by kernel_rfl)
theorem eo_rText (s : Int → Int → Int → Bool → Int → Bool → List UInt8 → Option (List UInt8)) (hs : ∀ (x0 : Int) (x1 : Int) (x2 : Int) (x3 : Bool) (x4 : Int) (x5 : Bool) (x6 : List UInt8) (r0 : List UInt8), s x0 x1 x2 x3 x4 x5 x6 = some r0 → PureRet Try.prog T 5 [.agg [.v (.int .i64 x0) .no, .v (.int .i64 x1) .no, .v (.int .i64 x2) .no, .v (.bool x3) .no, .v (.int .i64 x4) .no, .v (.bool x5) .no, .v (.bytes x6) .no]] [.v (.str r0) .no]) : EntOK Try.prog T ⟨5, e_rText s⟩ := by
  refine ⟨go_rText, fun R ds K r h => ?_, fun R ds K => ?_⟩
  · simp only [e_rText] at h
    split at h
    · obtain ⟨r0, h1, h2⟩ := bnd1_some h
      exact ⟨_, h2, hs _ _ _ _ _ _ _ _ h1⟩
    · cases h
  · simp only [e_rText]
    split
    · rw [bnd1_b]; rfl
    · rfl
theorem co_rText (N : Nat) : CxOK Try.prog (cx_rText N) :=
  cxOK_of2 (es := [⟨13, e_rCheck (s_rCheck N)⟩, ⟨14, e_rHex (s_rHex N)⟩, ⟨15, e_rhex (s_rhex N)⟩]) (me := []) (ms := []) T_ok ⟨eo_rCheck _ (p_rCheck N), eo_rHex _ (p_rHex N), eo_rhex _ (p_rhex N), trivial⟩ trivial trivial rfl (fun _ _ _ _ => rfl) (fun _ _ _ _ _ _ => rfl) rfl
theorem lo_rText (N : Nat) : LoopsOK (cx_rText N) Try.f5.ntmps (bodyOf Try.f5) :=
  loopsOK_of (k := 0) (by kernel_rfl) trivial
theorem p_rText (N : Nat) (x0 : Int) (x1 : Int) (x2 : Int) (x3 : Bool) (x4 : Int) (x5 : Bool) (x6 : List UInt8) (r0 : List UInt8) (h : s_rText N x0 x1 x2 x3 x4 x5 x6 = some r0) : PureRet Try.prog T 5 [.agg [.v (.int .i64 x0) .no, .v (.int .i64 x1) .no, .v (.int .i64 x2) .no, .v (.bool x3) .no, .v (.int .i64 x4) .no, .v (.bool x5) .no, .v (.bytes x6) .no]] [.v (.str r0) .no] :=
  pure_of (cx := cx_rText N) (by kernel_rfl) (co_rText N) Try.func5 (by kernel_rfl) (by kernel_rfl) (lo_rText N) rfl rfl rfl (rf := r_rText) ((s_rText_ok N x0 x1 x2 x3 x4 x5 x6).trans h) (fun rs' m h => by
    unfold r_rText at h
    split at h
    · cases h; exact ⟨rfl, rfl⟩
    · cases h)
end Go.Proofs.Ytomdjcodgkoapaa.En

/- The printed functions, together. -/

/- Words for the plain laws: branches, numbers, bits, places in a list. No program in sight. -/
namespace Go.Proofs.Ytomdjcodgkoapaa.En
open Go
set_option linter.unusedVariables false
section
variable {R α β γ δ : Type}
theorem br_dec (p : Prop) [Decidable p] (x y : Option R) : br (decide p) x y = if p then x else y := by
  by_cases h : p <;> simp [br, h]
theorem br_not (c : Bool) (x y : Option R) : br (!c) x y = br c y x := by cases c <;> rfl
theorem br_and (a b : Bool) (x y : Option R) : br (a && b) x y = br a (br b x y) y := by cases a <;> rfl
theorem bnd1_mk (a : α) (K : α → Option R) : bnd1 (some a) K = K a := id rfl
theorem at_of {xs : List α} {i : Nat} {x : α} (h : xs[i]? = some x) (K : α → Option R) : at? xs i K = K x := by simp [at?, h]
theorem at_mid (pre : List α) (x : α) (suf : List α) (K : α → Option R) : at? (pre ++ x :: suf) pre.length K = K x := at_of (by simp) K
end
/-! Numbers -/
theorem w64 {n : Int} (h1 : -9223372036854775808 ≤ n) (h2 : n ≤ 9223372036854775807) : IntKind.i64.wrap n = n := by
  rw [IntKind.wrap_i64]; omega
theorem wu8 (n : Int) : IntKind.u8.wrap n = n % 256 := IntKind.wrap_u8 n
theorem fdiv_pos (a b : Int) (h : 0 < b) : a.fdiv b = a / b := by rw [Int.fdiv_eq_ediv_of_nonneg _ (by omega)]
theorem ofNat_toNat (u : UInt8) : UInt8.ofNat u.toNat = u := UInt8.ofNat_toNat
end Go.Proofs.Ytomdjcodgkoapaa.En

/- Texts of blocks; plain. -/
namespace Go.Proofs.Ytomdjcodgkoapaa
set_option linter.unusedVariables false
def hexD (n : Nat) : UInt8 := if n < 10 then UInt8.ofNat (48 + n) else UInt8.ofNat (87 + n)
def hexS : List UInt8 → List UInt8
  | [] => []
  | x :: r => hexD (x.toNat / 16) :: hexD (x.toNat % 16) :: hexS r
theorem hexS_len : ∀ l : List UInt8, (hexS l).length = 2 * l.length
  | [] => rfl
  | x :: r => by simp [hexS, hexS_len r]; omega
def infT (inf : List UInt8) : List UInt8 := if inf = [] then [45] else hexS inf
def seqT (seq : Int) : List UInt8 := if seq = 1 then [49] else [48]
def rcT (code : Int) : List UInt8 := if code = 0 then [102, 105, 110, 101] else if code = 1 then [115, 117, 109] else [111, 116, 104, 101, 114]
def scT (code : Int) : List UInt8 := if code = 0 then [114, 101, 115, 121, 110, 99] else if code = 1 then [105, 102, 115] else if code = 2 then [97, 98, 111, 114, 116] else [119, 116, 120]
def wayT (answer : Bool) : List UInt8 := bif answer then [97, 110, 115, 119, 101, 114] else [114, 101, 113, 117, 101, 115, 116]
def moreT (more : Bool) : List UInt8 := bif more then [109, 111, 114, 101] else [108, 97, 115, 116]
def lineT (nad kind seq : Int) (more : Bool) (code : Int) (answer : Bool) (inf : List UInt8) : List UInt8 :=
  if kind = 0 then [73, 32] ++ (hexS [UInt8.ofNat nad.toNat] ++ ([32] ++ (seqT seq ++ ([32] ++ (moreT more ++ ([32] ++ infT inf))))))
  else if kind = 1 then [82, 32] ++ (hexS [UInt8.ofNat nad.toNat] ++ ([32] ++ (seqT seq ++ ([32] ++ rcT code))))
  else [83, 32] ++ (hexS [UInt8.ofNat nad.toNat] ++ ([32] ++ (scT code ++ ([32] ++ (wayT answer ++ ([32] ++ infT inf))))))
def textT (nad kind seq : Int) (more : Bool) (code : Int) (answer : Bool) (inf : List UInt8) : List UInt8 :=
  if checkE nad kind seq more code answer inf = 0 then lineT nad kind seq more code answer inf else []
theorem hexD_inj : ∀ a b : Nat, a < 16 → b < 16 → hexD a = hexD b → a = b := by
  have key : ∀ a b : Fin 16, hexD a.val = hexD b.val → a = b := by decide +kernel
  intro a b ha hb h
  exact congrArg Fin.val (key ⟨a, ha⟩ ⟨b, hb⟩ h)
theorem hexD_ne : ∀ a : Nat, a < 16 → hexD a ≠ 45 := by
  have key : ∀ a : Fin 16, hexD a.val ≠ 45 := by decide +kernel
  exact fun a ha => key ⟨a, ha⟩
theorem hex_byte {x y : UInt8} (h1 : hexD (x.toNat / 16) = hexD (y.toNat / 16)) (h2 : hexD (x.toNat % 16) = hexD (y.toNat % 16)) : x = y := by
  have hx := x.toNat_lt
  have hy := y.toNat_lt
  have e1 := hexD_inj _ _ (by omega) (by omega) h1
  have e2 := hexD_inj _ _ (by omega) (by omega) h2
  exact UInt8.toNat_inj.1 (by omega)
theorem hexS_inj : ∀ a b : List UInt8, hexS a = hexS b → a = b
  | [], [], _ => rfl
  | [], y :: b, h => by simp [hexS] at h
  | x :: a, [], h => by simp [hexS] at h
  | x :: a, y :: b, h => by
    simp only [hexS, List.cons.injEq] at h
    rw [hex_byte h.1 h.2.1, hexS_inj a b h.2.2]
theorem infT_inj {a b : List UInt8} (h : infT a = infT b) : a = b := by
  unfold infT at h
  cases a with
  | nil =>
    cases b with
    | nil => rfl
    | cons y b =>
      have hy := y.toNat_lt
      simp only [if_true, hexS] at h
      rw [if_neg (by simp)] at h
      injection h with h _
      exact absurd h.symm (hexD_ne _ (by omega))
  | cons x a =>
    cases b with
    | nil =>
      have hx := x.toNat_lt
      simp only [if_true, hexS] at h
      rw [if_neg (by simp)] at h
      injection h with h _
      exact absurd h (hexD_ne _ (by omega))
    | cons y b =>
      rw [if_neg (by simp), if_neg (by simp)] at h
      exact hexS_inj _ _ h
/-- What is known of a valid block. -/
theorem check_facts {nad kind seq : Int} {more : Bool} {code : Int} {answer : Bool} {inf : List UInt8} (h : checkE nad kind seq more code answer inf = 0) :
    (0 ≤ nad ∧ nad ≤ 254) ∧ ((kind = 0 ∧ (seq = 0 ∨ seq = 1) ∧ code = 0 ∧ answer = false) ∨ (kind = 1 ∧ (seq = 0 ∨ seq = 1) ∧ (code = 0 ∨ code = 1 ∨ code = 2) ∧ more = false ∧ answer = false ∧ inf = []) ∨ (kind = 2 ∧ seq = 0 ∧ (code = 0 ∨ code = 1 ∨ code = 2 ∨ code = 3) ∧ more = false)) ∧ inf.length ≤ 254 := by
  unfold checkE at h
  by_cases h1 : kind < 0 ∨ 2 < kind
  · rw [if_pos h1] at h; exact absurd h (by decide)
  rw [if_neg h1] at h
  by_cases h2 : nad < 0 ∨ 254 < nad
  · rw [if_pos h2] at h; exact absurd h (by decide)
  rw [if_neg h2] at h
  by_cases h3 : kind ≠ 2 ∧ (seq < 0 ∨ 1 < seq)
  · rw [if_pos h3] at h; exact absurd h (by decide)
  rw [if_neg h3] at h
  by_cases h4 : kind ≠ 0 ∧ (code < 0 ∨ (if kind = 1 then 3 else 4) ≤ code)
  · rw [if_pos h4] at h; exact absurd h (by decide)
  rw [if_neg h4] at h
  by_cases h5 : (kind = 2 ∧ seq ≠ 0) ∨ (kind = 0 ∧ code ≠ 0) ∨ (kind ≠ 0 ∧ more = true) ∨ (kind ≠ 2 ∧ answer = true)
  · rw [if_pos h5] at h; exact absurd h (by decide)
  rw [if_neg h5] at h
  have hm : kind ≠ 0 → more = false := fun k => by
    cases more with
    | false => rfl
    | true => exact absurd (.inr (.inr (.inl ⟨k, rfl⟩))) h5
  have ha : kind ≠ 2 → answer = false := fun k => by
    cases answer with
    | false => rfl
    | true => exact absurd (.inr (.inr (.inr ⟨k, rfl⟩))) h5
  unfold infE at h
  refine ⟨by omega, ?_, ?_⟩
  · rcases (by omega : kind = 0 ∨ kind = 1 ∨ kind = 2) with rfl | rfl | rfl
    · exact .inl ⟨rfl, by omega, by omega, ha (by decide)⟩
    · refine .inr (.inl ⟨rfl, by omega, ?_, hm (by decide), ha (by decide), ?_⟩)
      · simp at h4; omega
      · rw [if_neg (by decide), if_pos (.inl rfl)] at h
        split at h
        · rename_i hl; exact List.length_eq_zero_iff.1 hl
        · exact absurd h (by decide)
    · refine .inr (.inr ⟨rfl, by omega, ?_, hm (by decide)⟩)
      simp at h4; omega
  · by_cases k0 : kind = 0
    · rw [if_pos k0] at h
      split at h
      · exact absurd h (by decide)
      · omega
    · rw [if_neg k0] at h
      split at h
      · split at h
        · omega
        · exact absurd h (by decide)
      · split at h
        · omega
        · exact absurd h (by decide)
theorem nad_inj {a b : Int} (ha : 0 ≤ a ∧ a ≤ 254) (hb : 0 ≤ b ∧ b ≤ 254) (h : UInt8.ofNat a.toNat = UInt8.ofNat b.toNat) : a = b := by
  have := congrArg UInt8.toNat h
  rw [UInt8.toNat_ofNat', UInt8.toNat_ofNat', Nat.mod_eq_of_lt (by omega), Nat.mod_eq_of_lt (by omega)] at this
  omega
theorem lineT_inj {nad kind seq : Int} {more : Bool} {code : Int} {answer : Bool} {inf : List UInt8} {nad' kind' seq' : Int} {more' : Bool} {code' : Int} {answer' : Bool} {inf' : List UInt8}
    (h : checkE nad kind seq more code answer inf = 0) (h' : checkE nad' kind' seq' more' code' answer' inf' = 0) (e : lineT nad kind seq more code answer inf = lineT nad' kind' seq' more' code' answer' inf') :
    nad = nad' ∧ kind = kind' ∧ seq = seq' ∧ more = more' ∧ code = code' ∧ answer = answer' ∧ inf = inf' := by
  obtain ⟨n1, k1, _⟩ := check_facts h
  obtain ⟨n2, k2, _⟩ := check_facts h'
  have hn : ∀ {x y : UInt8}, hexD (x.toNat / 16) = hexD (y.toNat / 16) → hexD (x.toNat % 16) = hexD (y.toNat % 16) → x = y := fun a b => hex_byte a b
  clear h h'
  rcases k1 with ⟨rfl, s1, rfl, rfl⟩ | ⟨rfl, s1, c1, rfl, rfl, rfl⟩ | ⟨rfl, rfl, c1, rfl⟩ <;> rcases k2 with ⟨rfl, s2, rfl, rfl⟩ | ⟨rfl, s2, c2, rfl, rfl, rfl⟩ | ⟨rfl, rfl, c2, rfl⟩
  · have e' : hexD ((UInt8.ofNat nad.toNat).toNat / 16) = hexD ((UInt8.ofNat nad'.toNat).toNat / 16) ∧ hexD ((UInt8.ofNat nad.toNat).toNat % 16) = hexD ((UInt8.ofNat nad'.toNat).toNat % 16) ∧ seqT seq = seqT seq' ∧ moreT more = moreT more' ∧ infT inf = infT inf' := by
      rcases s1 with rfl | rfl <;> rcases s2 with rfl | rfl <;> cases more <;> cases more' <;> simp [lineT, hexS, seqT, moreT] at e ⊢ <;> exact e
    obtain ⟨e1, e2, e3, e4, e5⟩ := e'
    refine ⟨nad_inj n1 n2 (hn e1 e2), rfl, ?_, ?_, rfl, rfl, infT_inj e5⟩
    · rcases s1 with rfl | rfl <;> rcases s2 with rfl | rfl <;> simp [seqT] at e3 ⊢
    · cases more <;> cases more' <;> simp [moreT] at e4 ⊢
  · simp [lineT] at e
  · simp [lineT] at e
  · simp [lineT] at e
  · have e' : hexD ((UInt8.ofNat nad.toNat).toNat / 16) = hexD ((UInt8.ofNat nad'.toNat).toNat / 16) ∧ hexD ((UInt8.ofNat nad.toNat).toNat % 16) = hexD ((UInt8.ofNat nad'.toNat).toNat % 16) ∧ seqT seq = seqT seq' ∧ rcT code = rcT code' := by
      rcases s1 with rfl | rfl <;> rcases s2 with rfl | rfl <;> rcases c1 with rfl | rfl | rfl <;> rcases c2 with rfl | rfl | rfl <;> simp [lineT, hexS, seqT, rcT] at e ⊢ <;> exact e
    obtain ⟨e1, e2, e3, e4⟩ := e'
    refine ⟨nad_inj n1 n2 (hn e1 e2), rfl, ?_, rfl, ?_, rfl, rfl⟩
    · rcases s1 with rfl | rfl <;> rcases s2 with rfl | rfl <;> simp [seqT] at e3 ⊢
    · rcases c1 with rfl | rfl | rfl <;> rcases c2 with rfl | rfl | rfl <;> simp [rcT] at e4 ⊢
  · simp [lineT] at e
  · simp [lineT] at e
  · simp [lineT] at e
  · have e' : hexD ((UInt8.ofNat nad.toNat).toNat / 16) = hexD ((UInt8.ofNat nad'.toNat).toNat / 16) ∧ hexD ((UInt8.ofNat nad.toNat).toNat % 16) = hexD ((UInt8.ofNat nad'.toNat).toNat % 16) ∧ code = code' ∧ answer = answer' ∧ infT inf = infT inf' := by
      rcases c1 with rfl | rfl | rfl | rfl <;> rcases c2 with rfl | rfl | rfl | rfl <;> cases answer <;> cases answer' <;> simp [lineT, hexS, scT, wayT] at e ⊢ <;> exact e
    obtain ⟨e1, e2, e3, e4, e5⟩ := e'
    exact ⟨nad_inj n1 n2 (hn e1 e2), rfl, rfl, rfl, e3, e4, infT_inj e5⟩
end Go.Proofs.Ytomdjcodgkoapaa

/- Texts of blocks: bytes as hexadecimal digits; the program and the reference. -/
namespace Go.Proofs.Ytomdjcodgkoapaa.En
open Go
set_option linter.unusedVariables false
def digs : List UInt8 := [48, 49, 50, 51, 52, 53, 54, 55, 56, 57, 97, 98, 99, 100, 101, 102]
theorem digs_at {R : Type} (i : Nat) (h : i < 16) (K : UInt8 → Option R) : at? digs i K = K (hexD i) := by
  apply at_of
  have key : ∀ i : Fin 16, digs[i.val]? = some (hexD i.val) := by decide +kernel
  exact key ⟨i, h⟩
theorem digs_cut (i : Nat) (h : i < 16) : (digs.take (i + 1)).drop i = [hexD i] := by
  have key : ∀ i : Fin 16, (digs.take (i.val + 1)).drop i.val = [hexD i.val] := by decide +kernel
  exact key ⟨i, h⟩
theorem shr4 (u : UInt8) : shrI .u8 (u.toNat : Int) 4 = ((u.toNat / 16 : Nat) : Int) := by
  show (u.toNat : Int).fdiv (2 ^ (min (4 : Int).toNat 8)) = _
  rw [show (2 : Int) ^ (min (4 : Int).toNat 8) = 16 from rfl, fdiv_pos _ _ (by omega)]; omega
theorem and15 (u : UInt8) : bitsI .and .u8 (u.toNat : Int) 15 = ((u.toNat % 16 : Nat) : Int) := by
  have hu := u.toNat_lt
  have e1 : (BitVec.ofInt 8 (15 : Int)).toNat = 2 ^ 4 - 1 := by decide
  have e2 : (BitVec.ofInt 8 (u.toNat : Int)).toNat = u.toNat := by
    rw [BitVec.toNat_ofInt]; simp; omega
  show IntKind.u8.wrap ((BitVec.ofInt 8 (u.toNat : Int) &&& BitVec.ofInt 8 15).toNat : Int) = _
  rw [BitVec.toNat_and, e1, e2, Nat.and_two_pow_sub_one_eq_mod, wu8]; omega
theorem Hex_loop {R : Type} (N : Nat) (K0 : List UInt8 → Option R) : ∀ (b pre acc : List UInt8) (t : Nat), b.length < t → pre.length + b.length ≤ 1000000 → acc.length + 2 * b.length ≤ 2000000 →
    S_Hex_3 N (pre ++ b) ((pre ++ b).length : Int) t acc (pre.length : Int) K0 = K0 (acc ++ hexS b)
  | b, pre, acc, 0, ht, _, _ => by omega
  | [], pre, acc, t + 1, ht, _, ha => by
    unfold S_Hex_3 F_Hex_3
    have e : ¬ ((pre.length : Int) < ((pre ++ ([] : List UInt8)).length : Int)) := by simp
    simp only [List.length_nil] at ha
    rw [br_dec, if_neg e]; simp [hexS]
  | u :: r, pre, acc, t + 1, ht, hl, ha => by
    simp only [List.length_cons] at ht hl ha
    have hu := u.toNat_lt
    have h1 : (pre.length : Int) < ((pre ++ u :: r).length : Int) := by simp; omega
    have h2 : (0 : Int) ≤ pre.length := by omega
    have h3 : IntKind.i64.wrap ((pre.length : Int) + 1) = ((pre ++ [u]).length : Int) := by rw [w64 (by omega) (by omega)]; simp
    have em : pre ++ u :: r = (pre ++ [u]) ++ r := by simp
    have ih := Hex_loop N K0 r (pre ++ [u]) (acc ++ [hexD (u.toNat / 16), hexD (u.toNat % 16)]) t (by omega) (by simp; omega) (by simp; omega)
    rw [← em, ← h3] at ih
    have f1 : (0 : Int) ≤ ((u.toNat / 16 : Nat) : Int) := by omega
    have f2 : ((u.toNat / 16 : Nat) : Int) < 16 := by omega
    have f3 : ((u.toNat % 16 : Nat) : Int) < 16 := by omega
    have f4 : (acc.length + (0 + 1 + 1)) * 1 ≤ 140737488355328 := by omega
    have ed : ([48, 49, 50, 51, 52, 53, 54, 55, 56, 57, 97, 98, 99, 100, 101, 102] : List UInt8) = digs := rfl
    unfold S_Hex_3 F_Hex_3
    simp only [br_dec, br_and, h1, h2, if_true, Int.toNat_natCast, at_mid, shr4, and15, f1, f2, f3, ed, digs_at _ (by omega : u.toNat / 16 < 16), digs_at _ (by omega : u.toNat % 16 < 16), List.length_cons, List.length_nil, f4, UInt8.ofNat_toNat, ih, hexS]
    simp
theorem Hex_eq (N : Nat) (b : List UInt8) (h : b.length < N) (hb : b.length ≤ 1000000) : s_Hex N b = some (hexS b) := by
  have := Hex_loop N (fun l0 => br (decide (l0.length ≤ 9223372036854775807)) (some l0) none) b [] [] N h (by simpa using hb) (by simp; omega)
  rw [List.nil_append, br_dec, if_pos (by rw [List.nil_append, hexS_len]; omega), List.nil_append] at this
  unfold s_Hex
  have e : IntKind.i64.wrap (2 * (b.length : Int)) = 2 * b.length := w64 (by omega) (by omega)
  rw [e, br_and, br_dec, if_pos (by omega), br_dec, if_pos (by omega)]
  exact this
theorem rHex_loop (N : Nat) : ∀ (b pre acc : List UInt8) (t : Nat), b.length < t → pre.length + b.length ≤ 1000000 → acc.length + 2 * b.length ≤ 2000000 →
    S_rHex_4 N (pre ++ b) digs t acc (pre.length : Int) (fun l0 => some l0) = some (acc ++ hexS b)
  | b, pre, acc, 0, ht, _, _ => by omega
  | [], pre, acc, t + 1, ht, _, ha => by
    unfold S_rHex_4 F_rHex_4
    have e : ¬ ((pre.length : Int) < ((pre ++ ([] : List UInt8)).length : Int)) := by simp
    rw [br_dec, if_neg e]; simp [hexS]
  | u :: r, pre, acc, t + 1, ht, hl, ha => by
    simp only [List.length_cons] at ht hl ha
    have hu := u.toNat_lt
    have h1 : (pre.length : Int) < ((pre ++ u :: r).length : Int) := by simp; omega
    have h2 : (0 : Int) ≤ pre.length := by omega
    have h3 : IntKind.i64.wrap ((pre.length : Int) + 1) = ((pre ++ [u]).length : Int) := by rw [w64 (by omega) (by omega)]; simp
    have em : pre ++ u :: r = (pre ++ [u]) ++ r := by simp
    have ih := rHex_loop N r (pre ++ [u]) (acc ++ [hexD (u.toNat / 16)] ++ [hexD (u.toNat % 16)]) t (by omega) (by simp; omega) (by simp; omega)
    rw [← em, ← h3] at ih
    have t1 : (u.toNat : Int).tdiv 16 = ((u.toNat / 16 : Nat) : Int) := by rw [Int.tdiv_eq_ediv_of_nonneg (by omega)]; omega
    have t2 : (u.toNat : Int).tmod 16 = ((u.toNat % 16 : Nat) : Int) := by rw [Int.tmod_eq_emod_of_nonneg (by omega)]; omega
    have w1 : ((u.toNat / 16 : Nat) : Int) % 256 = ((u.toNat / 16 : Nat) : Int) := by omega
    have w2 : (((u.toNat / 16 : Nat) : Int) + 1) % 256 = ((u.toNat / 16 + 1 : Nat) : Int) := by omega
    have w3 : (((u.toNat % 16 : Nat) : Int) + 1) % 256 = ((u.toNat % 16 + 1 : Nat) : Int) := by omega
    have hd : (digs.length : Int) = 16 := rfl
    have f1 : ((u.toNat / 16 + 1 : Nat) : Int) ≤ 16 := by omega
    have f2 : ((u.toNat / 16 : Nat) : Int) ≤ ((u.toNat / 16 + 1 : Nat) : Int) := by omega
    have f3 : ((u.toNat % 16 + 1 : Nat) : Int) ≤ 16 := by omega
    have f4 : ((u.toNat % 16 : Nat) : Int) ≤ ((u.toNat % 16 + 1 : Nat) : Int) := by omega
    have f5 : acc.length + (0 + 1) ≤ 9223372036854775807 := by omega
    have f6 : (acc ++ [hexD (u.toNat / 16)]).length + (0 + 1) ≤ 9223372036854775807 := by simp; omega
    unfold S_rHex_4 F_rHex_4
    simp only [br_dec, br_and, h1, h2, if_true, Int.toNat_natCast, at_mid, t1, t2, wu8, w1, w2, w3, hd, f1, f2, f3, f4, digs_cut _ (by omega : u.toNat / 16 < 16), digs_cut _ (by omega : u.toNat % 16 < 16), List.length_cons, List.length_nil, f5, f6]
    rw [ih]
    simp [hexS]
theorem rHex_eq (N : Nat) (b : List UInt8) (h : b.length < N) (hb : b.length ≤ 1000000) : s_rHex N b = some (hexS b) := by
  have := rHex_loop N b [] [] N h (by simpa using hb) (by simp; omega)
  unfold s_rHex
  exact this
end Go.Proofs.Ytomdjcodgkoapaa.En

/- The engine, part 2r: what an argument that came in reads as. No program in sight. -/
namespace Go.Proofs.Ytomdjcodgkoapaa.En
open Go Go.RowKit
set_option linter.unusedVariables false
/-- A world of arguments: nothing is written. -/
def immG (T : TypeId → Option Ty) : G := { Γ := fun _ => .imm, J := fun _ _ => 0, sz := sizes T }
theorem stable_imm (T : TypeId → Option Ty) (b o : Nat) : Stable (immG T) b o := trivial
/-- An element, given its cells. -/
def mkEl (row : Bool) (cs : List V) : V := match row with | true => .agg cs | false => cs.headD .nilI
/-- Cells that have the shape of a type. -/
def FitsFs (F : TypeId → List V → Prop) : List Field → List V → Prop
  | [], xs => xs = []
  | f :: fs, xs => ∃ a r, xs = a ++ r ∧ F f.type a ∧ FitsFs F fs r
def Fits (T : TypeId → Option Ty) : Nat → TypeId → List V → Prop
  | 0, _, _ => False
  | n + 1, t, xs => match T t with
    | none => False
    | some ty => match ty.desc with
      | .bool => ∃ b, xs = [.bool b]
      | .int k => ∃ i, xs = [.int k i] ∧ k.min ≤ i ∧ i ≤ k.max
      | .string => ∃ s, xs = [.str s] ∧ s.length ≤ maxLen
      | .slice e => match ty.cks with
        | [.bytes _] => ∃ s, xs = [.bytes s] ∧ s.length ≤ maxLen
        | [.slc e'] => e' = e ∧ ∃ ys, xs = [.sl e ys] ∧ ys.length ≤ maxLen ∧ ∀ y ∈ ys, ∃ te cs, T e = some te ∧ y = mkEl te.row cs ∧ Fits T n e cs
        | _ => False
      | .struct fs => FitsFs (Fits T n) fs.toList xs
      | _ => False
/-- A type that is read. -/
def readable (T : TypeId → Option Ty) (t : TypeId) : Bool :=
  match T t with
  | none => false
  | some ty => match ty.desc with
    | .bool => true
    | .int _ => true
    | .string => true
    | .slice e => (match T e with
      | none => false
      | some te => (match ty.cks with
        | [.bytes _] => (match te.desc with | .int .u8 => Nat.beq te.size 1 | _ => false)
        | [.slc e'] => Nat.beq e' e && Nat.ble 1 te.size && (match te.row with | true => true | false => Nat.beq te.size 1)
        | _ => false))
    | .struct fs => contigT T ty.size 0 fs.toList && fs.toList.all (fun f => match T f.type with | some _ => true | none => false)
    | _ => false
/-- The types that a type leads to. -/
def closedT (T : TypeId → Option Ty) (l : List TypeId) : Bool :=
  l.all fun t => readable T t && (match T t with
    | none => false
    | some ty => match ty.desc with
      | .slice e => l.any (Nat.beq e)
      | .struct fs => fs.toList.all fun f => l.any (Nat.beq f.type)
      | _ => true)
section
variable {H : Type} {enc : TypeId × Value → H} {P : Program} {T : TypeId → Option Ty} {w : World} {base : Nat} {spare : Nat → Bool} {held : Bool}
structure RepC (T : TypeId → Option Ty) (w : World) (xs : List V) (cs : List Value) : Prop where
  len : xs.length = cs.length
  one : ∀ x ∈ xs, x.one = true
  rep : ∀ (k : Nat) y, xs[k]? = some y → RepV (immG T) w y (cs.getD k undef)
theorem RepC.single {x : V} {v : Value} (h1 : x.one = true) (h : RepV (immG T) w x v) : RepC T w [x] [v] :=
  ⟨rfl, fun y hy => by simp at hy; subst hy; exact h1, fun k y hk => by
    rcases k with _ | k
    · simp at hk; subst hk; simpa using h
    · simp at hk⟩
theorem RepC.append {xs ys : List V} {cs ds : List Value} (h : RepC T w xs cs) (k : RepC T w ys ds) : RepC T w (xs ++ ys) (cs ++ ds) := by
  refine ⟨by simp [h.len, k.len], fun x hx => ?_, fun i y hy => ?_⟩
  · rcases List.mem_append.1 hx with hx | hx
    · exact h.one x hx
    · exact k.one x hx
  · rcases Nat.lt_or_ge i xs.length with hl | hl
    · rw [List.getElem?_append_left hl] at hy
      have := h.rep i y hy
      rw [List.getD_eq_getElem?_getD, List.getElem?_append_left (by rw [← h.len]; exact hl), ← List.getD_eq_getElem?_getD]
      exact this
    · rw [List.getElem?_append_right hl] at hy
      have := k.rep _ y hy
      rw [List.getD_eq_getElem?_getD, List.getElem?_append_right (by rw [← h.len]; exact hl), ← h.len, ← List.getD_eq_getElem?_getD]
      exact this
theorem cellsOf_eq (hT : TypesOK P T) {t : TypeId} {ty : Ty} (h : T t = some ty) : P.cellsOf t = ty.size := by
  obtain ⟨i, h1, _, h2, _⟩ := (hT t ty h).info
  simp [Program.cellsOf, h1, h2]
theorem sizes_eq {t : TypeId} {ty : Ty} (h : T t = some ty) : sizes T t = ty.size := by unfold sizes; rw [h]
theorem add_none (b off i : Nat) : (⟨b, off, none⟩ : Addr).add i = ⟨b, off + i, none⟩ := by
  unfold Addr.add
  by_cases h0 : i = 0
  · subst h0; rfl
  · rw [if_neg h0]
theorem spot_row {a : Addr} {n k : Nat} {cs : List Value} (h : w.cells? base (a.add (0 * n)) k = some cs) (hk : 0 < k) : a.spot = none := by
  obtain ⟨_, hl, h5⟩ := World.cells?_some h
  have h6 := h5 0 hk
  rw [List.getElem?_eq_getElem (by omega)] at h6
  have := World.cell?_spot h6
  simpa [Addr.add] using this
theorem mkEl_cells {row : Bool} {cs : List V} (ho : ∀ x ∈ cs, x.one = true) (h : row = false → cs.length = 1) : (mkEl row cs).cells = cs := by
  cases row with
  | true => rfl
  | false =>
    have := h rfl
    match cs, this with
    | [x], _ =>
      have := ho x (by simp)
      show V.cells x = [x]
      cases x <;> first | rfl | cases this
theorem okEl_mk {row : Bool} {cs : List V} {n : Nat} (hl : cs.length = n) (ho : ∀ x ∈ cs, x.one = true) (h : row = false → cs.length = 1) : okEl n (mkEl row cs) = true := by
  unfold okEl
  rw [mkEl_cells ho h]
  simp only [Bool.and_eq_true, beq_iff_eq, List.all_eq_true]
  exact ⟨hl, ho⟩
theorem flatT_get {α : Type} {n : Nat} : ∀ (l : List (List α)) (i j : Nat) (c : List α), (∀ c ∈ l, c.length = n) → l[i]? = some c → j < n → l.flatten[i * n + j]? = c[j]?
  | [], i, j, c, _, h, _ => by simp at h
  | d :: l, 0, j, c, hl, h, hj => by
    simp at h; subst h
    have := hl d (by simp)
    rw [List.flatten_cons, Nat.zero_mul, Nat.zero_add, List.getElem?_append_left (by omega)]
  | d :: l, i + 1, j, c, hl, h, hj => by
    have hd := hl d (by simp)
    rw [List.flatten_cons, Nat.succ_mul, List.getElem?_append_right (by omega)]
    rw [show i * n + n + j - d.length = i * n + j by omega]
    exact flatT_get l i j c (fun c hc => hl c (by simp [hc])) (by simpa using h) hj
theorem flatT_len {α : Type} {n : Nat} : ∀ (l : List (List α)), (∀ c ∈ l, c.length = n) → l.flatten.length = l.length * n
  | [], _ => by simp
  | d :: l, h => by
    rw [List.flatten_cons, List.length_append, h d (by simp), flatT_len l fun c hc => h c (by simp [hc]), List.length_cons, Nat.succ_mul]; omega
theorem choose_list {α : Type} {p : Nat → α → Prop} : ∀ (n : Nat), (∀ i, i < n → ∃ a, p i a) → ∃ l : List α, l.length = n ∧ ∀ (i : Nat) a, l[i]? = some a → p i a
  | 0, _ => ⟨[], rfl, fun i a h => by simp at h⟩
  | n + 1, h => by
    obtain ⟨l, h1, h2⟩ := choose_list n fun i hi => h i (by omega)
    obtain ⟨a, ha⟩ := h n (by omega)
    refine ⟨l ++ [a], by simp [h1], fun i b hb => ?_⟩
    rcases Nat.lt_or_ge i l.length with hl | hl
    · rw [List.getElem?_append_left hl] at hb; exact h2 i b hb
    · rw [List.getElem?_append_right hl] at hb
      have : i = n := by
        have := (List.getElem?_eq_some_iff.1 hb).1
        simp at this; omega
      subst this
      rw [h1] at hb
      simp at hb
      subst hb; exact ha
theorem trod_rep (hT : TypesOK P T) {l : List TypeId} (hl : closedT T l = true) : ∀ (fuel : Nat) (t : TypeId) (cs : List Value) (x : DataW H × List MemPlace), t ∈ l → DataW.trod enc P w base spare held fuel t cs = some x →
    ∃ xs, RepC T w xs cs ∧ Fits T fuel t xs ∧ ∀ ty, T t = some ty → cs.length = ty.size
  | 0, t, cs, x, _, h => by simp [DataW.trod] at h
  | n + 1, t, cs, x, hm, h => by
    have hcl := List.all_eq_true.1 hl t hm
    simp only [Bool.and_eq_true] at hcl
    obtain ⟨hre, hlead⟩ := hcl
    unfold Fits
    unfold readable at hre
    cases hTt : T t with
    | none => rw [hTt] at hre; simp at hre
    | some ty =>
    rw [hTt] at hre hlead
    simp only at hre hlead ⊢
    have hd := (hT t ty hTt).desc
    have h1c : ty.row = false → ty.size = 1 := (hT t ty hTt).one
    cases hdesc : ty.desc <;> rw [hdesc] at hre hlead hd <;> simp only [Bool.false_eq_true] at hre hlead ⊢
    · obtain ⟨b, rfl, _⟩ := DataW.trod_bool hd h
      exact ⟨[.bool b], .single rfl (.bool b), ⟨b, rfl⟩, fun ty' e => by cases e; rw [h1c (by simp [Ty.row, hdesc])]; rfl⟩
    · rename_i k
      obtain ⟨i, rfl, _, hwf⟩ := DataW.trod_int hd h
      have hb : k.min ≤ i ∧ i ≤ k.max := by simpa [Lit.wf] using hwf
      exact ⟨[.int k i], .single rfl (.int k i hb), ⟨i, rfl, hb⟩, fun ty' e => by cases e; rw [h1c (by simp [Ty.row, hdesc])]; rfl⟩
    · obtain ⟨s, rfl, _, hs⟩ := DataW.trod_string hd h
      have e : s = ⟨s.data.toList.toArray⟩ := by cases s; simp
      have hsl : s.data.toList.length = s.size := by cases s; rfl
      refine ⟨[.str s.data.toList], .single rfl ?_, ⟨_, rfl, by rw [hsl]; exact hs⟩, fun ty' e => by cases e; rw [h1c (by simp [Ty.row, hdesc])]; rfl⟩
      have := RepV.str (g := immG T) (w := w) s.data.toList (by rw [hsl]; unfold maxLen at hs; omega)
      rwa [← e] at this
    · rename_i e
      cases hTe : T e with
      | none => rw [hTe] at hre; simp at hre
      | some te =>
      rw [hTe] at hre
      simp only at hre
      have hsz := cellsOf_eq hT hTe
      have hmem : e ∈ l := by
        obtain ⟨z, hz, hb⟩ := List.any_eq_true.1 hlead
        have := Nat.eq_of_beq_eq_true hb
        subst this; exact hz
      have hsize : ∀ ty', some ty = some ty' → ∀ v : Value, [v].length = ty'.size := fun ty' e v => by cases e; rw [h1c (by simp [Ty.row, hdesc])]; rfl
      split at hre
      · rename_i e0 hcks
        split at hre
        · rename_i hte
          have hte1 := Nat.eq_of_beq_eq_true hre
          rw [hte1] at hsz
          have hde := (hT e te hTe).desc
          rw [hte] at hde
          rcases DataW.trod_slice hd h with ⟨rfl, _⟩ | ⟨a, len, cap, elems, rest, m, e1, rfl, _, hb, hlc, hcm, hel, hget, _, _⟩
          · exact ⟨[.bytes []], .single rfl (.bytes [] none 0 0 rfl (Nat.le_refl _) (by simp) (fun k x hx => by simp at hx)), ⟨[], rfl, by simp⟩, fun ty' e => hsize ty' e _⟩
          · have key : ∀ i, i < len → ∃ b : UInt8, ∃ bb off, a = ⟨bb, off, none⟩ ∧ w.cell? ⟨bb, off + i, none⟩ = some (.int .u8 (b.toNat : Int)) := by
              intro i hi
              have h2 := hget i hi
              rw [List.getElem?_eq_getElem (by rw [hel]; exact hi), Option.bind_eq_some_iff] at h2
              obtain ⟨cs, h3, h4⟩ := h2
              obtain ⟨z, rfl, _, hwf⟩ := DataW.trod_int hde h4
              rw [hsz, Nat.mul_one] at h3
              obtain ⟨_, _, h5⟩ := World.cells?_some h3
              have h6 := h5 0 (by omega)
              simp at h6
              have hzr : 0 ≤ z ∧ z ≤ 255 := by simpa [Lit.wf, IntKind.min, IntKind.max, IntKind.signed, IntKind.bits] using hwf
              have hspn : a.spot = none := by
                have h2 := hget 0 (by omega)
                rw [List.getElem?_eq_getElem (by omega), Option.bind_eq_some_iff] at h2
                obtain ⟨cs, h3, _⟩ := h2
                exact spot_row h3 (by omega)
              obtain ⟨bb, off, sp⟩ := a
              simp only at hspn
              subst hspn
              refine ⟨UInt8.ofNat z.toNat, bb, off, rfl, ?_⟩
              rw [add_none] at h6
              have hz2 : (off + i + 0) = off + i := rfl
              rw [show ((UInt8.ofNat z.toNat).toNat : Int) = z by rw [UInt8.toNat_ofNat', Nat.mod_eq_of_lt (by omega)]; omega]
              simpa [Addr.add] using h6
            obtain ⟨bs, b1, b2⟩ := choose_list len key
            refine ⟨[.bytes bs], .single rfl (.bytes bs (some a) len cap b1 hlc hcm fun k x hx => ?_), ⟨bs, rfl, by omega⟩, fun ty' e => hsize ty' e _⟩
            obtain ⟨bb, off, c1, c2⟩ := b2 k x hx
            exact ⟨bb, off, by rw [c1], stable_imm T _ _, c2⟩
        · cases hre
      · rename_i e0 hcks
        simp only [Bool.and_eq_true] at hre
        obtain ⟨⟨he0, hte1⟩, hrow⟩ := hre
        have he0 := Nat.eq_of_beq_eq_true he0
        have hte1 := Nat.le_of_ble_eq_true hte1
        have hrow1 : te.row = false → te.size = 1 := (hT e te hTe).one
        have hszs : (immG T).sz e = te.size := sizes_eq hTe
        rcases DataW.trod_slice hd h with ⟨rfl, _⟩ | ⟨a, len, cap, elems, rest, m, e1, rfl, _, hb, hlc, hcm, hel, hget, _, _⟩
        · exact ⟨[.sl e []], .single rfl (.sl e [] none 0 0 (fun _ => undef) rfl (Nat.le_refl _) (by simp) (by simp) (fun k y hy => by simp at hy) (fun k y hy => by simp at hy)), ⟨he0, [], rfl, by simp, by simp⟩, fun ty' e => hsize ty' e _⟩
        · obtain rfl : n = m := by omega
          have key : ∀ i, i < len → ∃ p : List V × List Value, RepC T w p.1 p.2 ∧ Fits T n e p.1 ∧ p.2.length = te.size ∧ ∃ bb off, a = ⟨bb, off, none⟩ ∧ ∀ j, j < te.size → w.cell? ⟨bb, off + (i * te.size + j), none⟩ = some (p.2.getD j undef) := by
            intro i hi
            have h2 := hget i hi
            rw [List.getElem?_eq_getElem (by rw [hel]; exact hi), Option.bind_eq_some_iff] at h2
            obtain ⟨cs, h3, h4⟩ := h2
            obtain ⟨xs, c1, c2, c3⟩ := trod_rep hT hl n e cs _ hmem h4
            have c3 := c3 te hTe
            rw [hsz] at h3
            obtain ⟨_, _, h5⟩ := World.cells?_some h3
            have hspn : a.spot = none := by
              have h2 := hget 0 (by omega)
              rw [List.getElem?_eq_getElem (by omega), Option.bind_eq_some_iff] at h2
              obtain ⟨cs, h3, _⟩ := h2
              exact spot_row h3 (by omega)
            obtain ⟨bb, off, sp⟩ := a
            simp only at hspn
            subst hspn
            refine ⟨(xs, cs), c1, c2, c3, bb, off, rfl, fun j hj => ?_⟩
            have h7 := h5 j hj
            rw [add_none, add_none, Nat.add_assoc] at h7
            rw [h7, List.getD_eq_getElem?_getD]
            show cs[j]? = some (cs[j]?.getD undef)
            rw [List.getElem?_eq_getElem (by omega)]; rfl
          obtain ⟨ps, b1, b2⟩ := choose_list len key
          have hxl : ∀ p ∈ ps, p.1.length = te.size ∧ ∀ x ∈ p.1, x.one = true := by
            intro p hp
            obtain ⟨i, hi⟩ := List.getElem?_of_mem hp
            obtain ⟨c1, _, c3, _⟩ := b2 i p hi
            exact ⟨by rw [c1.len, c3], c1.one⟩
          have hcells : ∀ p ∈ ps, (mkEl te.row p.1).cells = p.1 := fun p hp => mkEl_cells (hxl p hp).2 fun hr => by rw [(hxl p hp).1, hrow1 hr]
          have hflat : (ps.map fun p => mkEl te.row p.1).flatMap V.cells = (ps.map (·.1)).flatten := by
            rw [List.flatMap_def, List.map_map]
            congr 1
            exact List.map_congr_left fun p hp => hcells p hp
          have hall : ∀ c ∈ ps.map (·.1), c.length = te.size := fun c hc => by
            obtain ⟨p, hp, rfl⟩ := List.mem_map.1 hc
            exact (hxl p hp).1
          have hlook : ∀ (k : Nat) (y : V), ((ps.map fun p => mkEl te.row p.1).flatMap V.cells)[k]? = some y → ∃ i j p, k = i * te.size + j ∧ j < te.size ∧ ps[i]? = some p ∧ p.1[j]? = some y := by
            intro k y hk
            rw [hflat] at hk
            have hk1 := (List.getElem?_eq_some_iff.1 hk).1
            rw [flatT_len _ hall, List.length_map, b1] at hk1
            have hpos : 0 < te.size := by omega
            have hi : k / te.size < len := (Nat.div_lt_iff_lt_mul hpos).2 hk1
            have hj : k % te.size < te.size := Nat.mod_lt _ hpos
            have hkk : k = k / te.size * te.size + k % te.size := by rw [Nat.mul_comm]; exact (Nat.div_add_mod k te.size).symm
            have hp : ps[k / te.size]? = some (ps[k / te.size]'(by omega)) := List.getElem?_eq_getElem (by omega)
            refine ⟨k / te.size, k % te.size, _, hkk, hj, hp, ?_⟩
            rw [hkk] at hk
            rw [flatT_get _ _ _ _ hall (by rw [List.getElem?_map, hp]; rfl) hj] at hk
            exact hk
          refine ⟨[.sl e (ps.map fun p => mkEl te.row p.1)], .single rfl (.sl e _ (some a) len cap (fun k => ((ps.map (·.2)).flatten).getD k undef) (by simp [b1]) hlc hcm (fun x hx => ?_) (fun k y hk => ?_) (fun k y hk => ?_)), ⟨he0, _, rfl, by simp [b1]; omega, fun y hy => ?_⟩, fun ty' e => hsize ty' e _⟩
          · obtain ⟨p, hp, rfl⟩ := List.mem_map.1 hx
            rw [hszs]
            exact okEl_mk (hxl p hp).1 (hxl p hp).2 fun hr => by rw [(hxl p hp).1, hrow1 hr]
          · obtain ⟨i, j, p, rfl, hj, hp, hy⟩ := hlook k y hk
            obtain ⟨_, _, c3, bb, off, c4, c5⟩ := b2 i p hp
            refine ⟨bb, off, by rw [c4], stable_imm T _ _, ?_⟩
            rw [c5 j hj]
            have : (ps.map (·.2)).flatten[i * te.size + j]? = p.2[j]? := flatT_get _ _ _ _ (fun c hc => by
              obtain ⟨q, hq, rfl⟩ := List.mem_map.1 hc
              obtain ⟨i', hi'⟩ := List.getElem?_of_mem hq
              exact (b2 i' q hi').2.2.1) (by rw [List.getElem?_map, hp]; rfl) hj
            rw [List.getD_eq_getElem?_getD, List.getD_eq_getElem?_getD, this]
          · obtain ⟨i, j, p, rfl, hj, hp, hy⟩ := hlook k y hk
            obtain ⟨c1, _, c3, _⟩ := b2 i p hp
            have : (ps.map (·.2)).flatten[i * te.size + j]? = p.2[j]? := flatT_get _ _ _ _ (fun c hc => by
              obtain ⟨q, hq, rfl⟩ := List.mem_map.1 hc
              obtain ⟨i', hi'⟩ := List.getElem?_of_mem hq
              exact (b2 i' q hi').2.2.1) (by rw [List.getElem?_map, hp]; rfl) hj
            have := c1.rep j y hy
            rw [List.getD_eq_getElem?_getD] at this ⊢
            rwa [‹(ps.map (·.2)).flatten[i * te.size + j]? = p.2[j]?›]
          · obtain ⟨p, hp, rfl⟩ := List.mem_map.1 hy
            obtain ⟨i, hi⟩ := List.getElem?_of_mem hp
            exact ⟨te, p.1, rfl, rfl, (b2 i p hi).2.1⟩
      · cases hre
    · rename_i fs
      simp only [Bool.and_eq_true] at hre
      obtain ⟨hco, hfa⟩ := hre
      obtain ⟨ys, m, e1, _, hlen, _, hg⟩ := DataW.trod_struct hd h
      obtain rfl : n = m := by omega
      rw [cellsOf_eq hT hTt] at hlen
      have main : ∀ (l' : List Field) (i off : Nat), fs.toList.drop i = l' → contigT T ty.size off l' = true → off ≤ ty.size → ∃ xs, RepC T w xs (cs.drop off) ∧ FitsFs (Fits T n) l' xs := by
        intro l'
        induction l' with
        | nil =>
          intro i off hdr hc ho
          have := Nat.eq_of_beq_eq_true hc
          refine ⟨[], ⟨by simp; omega, by simp, by simp⟩, rfl⟩
        | cons f l' ih =>
          intro i off hdr hc ho
          simp only [contigT, Bool.and_eq_true] at hc
          obtain ⟨hc1, hc2⟩ := hc
          have hc1 := Nat.eq_of_beq_eq_true hc1
          have hfi : fs.toList[i]? = some f := by
            have : (fs.toList.drop i)[0]? = some f := by rw [hdr]; rfl
            simpa using this
          have hfm : f ∈ fs.toList := List.mem_of_getElem? hfi
          have h1 := List.all_eq_true.1 hfa f hfm
          have hfl : f.type ∈ l := by
            have := List.all_eq_true.1 hlead f hfm
            obtain ⟨z, hz, hb⟩ := List.any_eq_true.1 this
            have := Nat.eq_of_beq_eq_true hb
            rw [this]; exact hz
          cases hTf : T f.type with
          | none => rw [hTf] at h1; simp at h1
          | some tf =>
          have h2 := hg i f (by simpa using hfi)
          rw [cellsOf_eq hT hTf, hc1] at h2
          have hle : off + tf.size ≤ ty.size := by
            have : ∀ (l' : List Field) (off : Nat), contigT T ty.size off l' = true → off ≤ ty.size := by
              intro l'
              induction l' with
              | nil => intro off hc; have := Nat.eq_of_beq_eq_true hc; omega
              | cons f l' ih => intro off hc; simp only [contigT, Bool.and_eq_true] at hc; have := ih _ hc.2; omega
            have := this l' _ hc2
            rw [sizes_eq hTf] at this
            exact this
          have hys : i < ys.length := by
            cases hyi : ys[i]? with
            | none =>
              have hfi2 : i < fs.size := by
                have := (List.getElem?_eq_some_iff.1 hfi).1
                simpa using this
              have : ys.length = fs.size := by assumption
              rw [this]; exact hfi2
            | some y => exact (List.getElem?_eq_some_iff.1 hyi).1
          rw [List.getElem?_eq_getElem hys] at h2
          obtain ⟨xs, c1, c2, _⟩ := trod_rep hT hl n f.type _ _ hfl h2
          obtain ⟨rs, d1, d2⟩ := ih (i + 1) (off + sizes T f.type) (by rw [List.drop_add_one_eq_tail_drop, hdr]; rfl) hc2 (by rw [sizes_eq hTf]; exact hle)
          refine ⟨xs ++ rs, ?_, xs, rs, rfl, c2, d2⟩
          have := c1.append d1
          rw [sizes_eq hTf, ← List.drop_drop, List.take_append_drop] at this
          exact this
      obtain ⟨xs, c1, c2⟩ := main fs.toList 0 0 rfl hco (Nat.zero_le _)
      exact ⟨xs, by simpa using c1, c2, fun ty' e => by cases e; exact hlen⟩
/-- An argument. -/
theorem arg_rep (hT : TypesOK P T) {l : List TypeId} (hl : closedT T l = true) {t : TypeId} (ht : t ∈ l) {v : Value} {d : DataW H} {ps : List MemPlace} (hrow : ∀ ty, T t = some ty → (ty.row = true → ∃ cs, v = .agg cs) ∧ (ty.row = false → v.cells = #[v]))
    (hd : DataW.Trod enc P w base spare held t v d ps) : ∃ n x, Fits T n t (V.cells x) ∧ RepV (immG T) w x v ∧ ∀ ty, T t = some ty → x = mkEl ty.row (V.cells x) := by
  obtain ⟨fuel, hf⟩ := hd
  obtain ⟨xs, h1, h2, h3⟩ := trod_rep hT hl fuel t _ _ ht hf
  cases hTt : T t with
  | none => cases fuel <;> simp [Fits, hTt] at h2
  | some ty =>
  have h3 := h3 ty hTt
  obtain ⟨r1, r2⟩ := hrow ty hTt
  cases hr : ty.row with
  | true =>
    obtain ⟨cs, rfl⟩ := r1 hr
    refine ⟨fuel, .agg xs, h2, .agg xs cs (by rw [h1.len]; rfl) fun k y hk => ?_, fun ty' e => by cases e; rw [hr]; rfl⟩
    have := h1.rep k y hk
    simpa [Value.cells, List.getD_eq_getElem?_getD, Array.getD_eq_getD_getElem?] using this
  | false =>
    have hv := r2 hr
    rw [hv] at h1 h3
    have hl1 := h1.len
    simp at hl1
    match xs, hl1 with
    | [x], _ =>
      have ho := h1.one x (by simp)
      have hc : V.cells x = [x] := by cases x <;> first | rfl | cases ho
      exact ⟨fuel, x, by rw [hc]; exact h2, by simpa using h1.rep 0 x rfl, fun ty' e => by cases e; rw [hr, hc]; rfl⟩
end
end Go.Proofs.Ytomdjcodgkoapaa.En

/- block.Text: the walk (printed by wip/gen/texts.py out of texts.txt). -/
namespace Go.Proofs.Ytomdjcodgkoapaa.En
open Go Go.RowKit
set_option linter.unusedVariables false
def strV (l : List UInt8) : Value := .string ⟨l.toArray⟩
/-- A row of strings. -/
def SS (v : Value) (w : World) (ws : List (List UInt8)) : Prop := ∃ b off c, v = .slice (some ⟨b, off, none⟩) ws.length c ∧ ws.length ≤ c ∧ c ≤ maxLen ∧ ∀ (j : Nat) s, ws[j]? = some s → w.cell? ⟨b, off + j, none⟩ = some (strV s)
theorem SS.below {v : Value} {w w' : World} {ws : List (List UInt8)} (h : SS v w ws) (hb : Below w.heap.size w w') : SS v w' ws := by
  obtain ⟨b, off, c, e, h1, h2, h3⟩ := h
  exact ⟨b, off, c, e, h1, h2, fun j s hs => (hb.cell (p := ⟨b, off + j, none⟩) (cell_lt (h3 j s hs))).trans (h3 j s hs)⟩
def smallS (ws : List (List UInt8)) : Prop := (Lib.join ws [32]).length ≤ 1000000 ∧ ws.length ≤ 1000
attribute [local go_sem] ta_II ta_IR ta_RI ta_RR ta_SI ta_SR
theorem m_WI (w : World) : (method 211 44 (.agg #[]) "smartcard/block.words").run Try.prog w = .ok (58, .agg #[]) w := by kernel_rfl
theorem m_WR (w : World) : (method 211 50 (.agg #[]) "smartcard/block.words").run Try.prog w = .ok (80, .agg #[]) w := by kernel_rfl
theorem m_WS (w : World) : (method 211 46 (.agg #[]) "smartcard/block.words").run Try.prog w = .ok (77, .agg #[]) w := by kernel_rfl
attribute [local go_sem] m_WI m_WR m_WS
theorem letter_I (w : World) : Calls Try.prog 10 #[.iface 44 (.agg #[])] w fun e w' => e = .returned (strV [73]) ∧ w' = w := by
  go_enter Try.func10, Try.ntmps10
  go_wp2
  go_ret
  exact ⟨rfl, rfl⟩
theorem letter_R (w : World) : Calls Try.prog 10 #[.iface 50 (.agg #[])] w fun e w' => e = .returned (strV [82]) ∧ w' = w := by
  go_enter Try.func10, Try.ntmps10
  go_wp2
  go_ret
  exact ⟨rfl, rfl⟩
theorem letter_S (w : World) : Calls Try.prog 10 #[.iface 46 (.agg #[])] w fun e w' => e = .returned (strV [83]) ∧ w' = w := by
  go_enter Try.func10, Try.ntmps10
  go_wp2
  go_ret
  exact ⟨rfl, rfl⟩
theorem kindOf_I (w : World) : Calls Try.prog 9 #[.int .i64 0] w fun e w' => e = .returned (.iface 44 (.agg #[])) ∧ w' = w := by
  go_enter Try.func9, Try.ntmps9
  go_wp2
  go_ret
  exact ⟨rfl, rfl⟩
theorem kindOf_R (w : World) : Calls Try.prog 9 #[.int .i64 1] w fun e w' => e = .returned (.iface 50 (.agg #[])) ∧ w' = w := by
  go_enter Try.func9, Try.ntmps9
  go_wp2
  go_ret
  exact ⟨rfl, rfl⟩
theorem kindOf_S (w : World) : Calls Try.prog 9 #[.int .i64 2] w fun e w' => e = .returned (.iface 46 (.agg #[])) ∧ w' = w := by
  go_enter Try.func9, Try.ntmps9
  go_wp2
  go_ret
  exact ⟨rfl, rfl⟩
theorem infoStr : (Try.prog.info? 9).map (fun i => (i.zero, i.size, i.bytes)) = some (some (.string ⟨#[]⟩), 1, 16) := by kernel_rfl
theorem szStr : sizes T 9 = 1 := by kernel_rfl
theorem rep_ss {v : Value} {w : World} {ws : List (List UInt8)} (h : SS v w ws) (hl : ∀ s ∈ ws, s.length ≤ 9223372036854775807) : RepV (immG T) w (.sl 9 (ws.map V.str)) v := by
  obtain ⟨b, off, c, rfl, h1, h2, h3⟩ := h
  refine .sl _ _ _ _ _ (fun j => ((ws.map strV)[j]?).getD undef) (by simp) h1 h2 (fun x hx => ?_) (fun j y hy => ?_) (fun j y hy => ?_)
  · obtain ⟨s, _, rfl⟩ := List.mem_map.1 hx
    show okEl (sizes T 9) _ = true
    rw [szStr]; rfl
  · rw [flatMap_str, List.getElem?_map, Option.map_eq_some_iff] at hy
    obtain ⟨s, hs, rfl⟩ := hy
    refine ⟨b, off, rfl, trivial, ?_⟩
    rw [h3 j s hs, List.getElem?_map, hs]; rfl
  · rw [flatMap_str, List.getElem?_map, Option.map_eq_some_iff] at hy
    obtain ⟨s, hs, rfl⟩ := hy
    rw [List.getElem?_map, hs]
    exact .str s (hl s (List.mem_of_getElem? hs))
theorem flatS_map : ∀ ws : List (List UInt8), flatS (ws.map V.str) = some ws
  | [] => rfl
  | w :: ws => by simp [flatS, flatS_map ws]
theorem tail_mem : ∀ (r : List (List UInt8)) (s : List UInt8), s ∈ r → s.length ≤ (Lib.joinTail [32] r).length
  | [], s, h => by cases h
  | y :: r, s, h => by
    have ih := tail_mem r s
    unfold Lib.joinTail at ih ⊢
    simp only [List.map_cons, List.flatten_cons, List.length_append, List.length_cons, List.length_nil]
    rcases List.mem_cons.1 h with rfl | h
    · omega
    · have := ih h; omega
theorem join_mem {ws : List (List UInt8)} {s : List UInt8} (h : s ∈ ws) : s.length ≤ (Lib.join ws [32]).length := by
  cases ws with
  | nil => cases h
  | cons x r =>
    rw [Lib.join_cons, List.length_append]
    rcases List.mem_cons.1 h with rfl | h
    · omega
    · have := tail_mem r s h; omega
theorem join_walk {v : Value} {w : World} {ws : List (List UInt8)} (h : SS v w ws) (h1 : (Lib.join ws [32]).length ≤ 1000000) (h2 : ws.length ≤ 1000) :
    Calls Try.prog 12 #[v, .string ⟨#[32]⟩] w fun e w' => e = .returned (strV (Lib.join ws [32])) ∧ Below w.heap.size w w' := by
  have hj : s_Join 0 (ws.map V.str) [32] = some (Lib.join ws [32]) := by
    unfold s_Join
    rw [flatS_map, Option.bind_some]
    simp [br, h1, Nat.le_trans h2 (by decide : 1000 ≤ 1000000)]
  have hl : ∀ s ∈ ws, s.length ≤ 9223372036854775807 := fun s hs => by have := join_mem hs; omega
  refine (p_Join 0 _ _ _ hj ⟨0, fun _ _ => False⟩ (immG T) w [v, .string ⟨#[32]⟩] rfl ⟨rfl, fun i y hi => ?_⟩).mono ?_
  · rcases i with _ | _ | i
    · simp at hi; subst hi; exact .v _ _ _ (rep_ss h hl) trivial
    · simp at hi; subst hi; exact .v _ _ _ (.str [32] (by decide)) trivial
    · simp at hi
  · rintro e w' ⟨us', g', rfl, hr, ht⟩
    obtain ⟨hl, hr⟩ := hr ⟨0, fun _ _ => False⟩
    match us', hl with
    | [u], _ =>
    have hu := hr 0 _ rfl
    simp only [List.getD_cons_zero] at hu
    cases hu with | v _ _ _ hv _ => cases hv; exact ⟨rfl, below_of_pure ht⟩
/-- append of strings behind a literal of two. -/
theorem append_strs {w : World} {b1 b2 off c2 : Nat} {l1 l2 : List UInt8} {ws : List (List UInt8)} (ty : TypeId) (hb1 : w.heap[b1]? = some (.cells #[strV l1, strV l2] 9 (0, 0)))
    (hcl : ∀ (j : Nat) s, ws[j]? = some s → w.cell? ⟨b2, off + j, none⟩ = some (strV s)) (hn : (l1 :: l2 :: ws).length ≤ 1000) (hne : 0 < ws.length) :
    ∃ v w', (Builtin.append_ #[33, 33] ty #[.slice (some ⟨b1, 0, none⟩) 2 2, .slice (some ⟨b2, off, none⟩) ws.length c2]).run Try.prog w = .ok v w' ∧ Below w.heap.size w w' ∧ SS v w' (l1 :: l2 :: ws) := by
  obtain ⟨i0, hi0, hz0, hz1, hz2⟩ := info_parts infoStr
  simp only [List.length_cons] at hn
  have holds : ∀ (j : Nat) v, [strV l1, strV l2][j]? = some v → w.cell? ((⟨b1, 0, none⟩ : Addr).add j) = some v := fun j v hv => World.news_of_block hb1 j v hv
  have hnews : ∀ (j : Nat) v, (ws.map strV)[j]? = some v → w.cell? ((⟨b2, off, none⟩ : Addr).add j) = some v := by
    intro j v hv
    rw [List.getElem?_map, Option.map_eq_some_iff] at hv
    obtain ⟨s, hs, rfl⟩ := hv
    have e : (⟨b2, off, none⟩ : Addr).add j = ⟨b2, off + j, none⟩ := by unfold Addr.add; split <;> simp_all
    rw [e]; exact hcl j s hs
  have hr := run_append_grow (P := Try.prog) w 33 ty 9 i0 _ Try.underlying33 hi0 hz0 ⟨b1, 0, none⟩ 2 2 [strV l1, strV l2] (by rw [hz1]; rfl) holds ⟨b2, off, none⟩ ws.length c2 (ws.map strV) (by rw [hz1]; simp) hnews (by omega) (by omega) (growslice_fits (by omega) (by rw [hz2]; omega))
  refine ⟨_, _, hr, ((Below.refl _ _).drew).alloc (Nat.le_refl _) _, w.heap.size, 0, grownCap w (2 + ws.length) 2 9, ?_, ?_, grownCap_le_maxLen _ _ _ _ (by unfold maxLen; omega), fun j s hs => ?_⟩
  · congr 1
    simp only [List.length_cons]; omega
  · have := grownCap_ge w (2 + ws.length) 2 9
    simp only [List.length_cons]; omega
  · have hj : j < ws.length + 2 := by have := (List.getElem?_eq_some_iff.1 hs).1; simp only [List.length_cons] at this; omega
    have hh := heap_alloc_new w.drew (.cells ([strV l1, strV l2].toArray ++ (ws.map strV).toArray ++ Builtin.zeroCells (Value.string ⟨#[]⟩).cells (grownCap w (2 + ws.length) 2 9 - (2 + ws.length))) 9)
    rw [cell_of_row _ w.heap.size (0 + j) _ _ _ hh, Nat.zero_add, Array.getElem?_append_left (by simp; omega)]
    rw [← Array.getElem?_toList, Array.toList_append]
    have e2 : [strV l1, strV l2] ++ ws.map strV = (l1 :: l2 :: ws).map strV := rfl
    show ([strV l1, strV l2] ++ ws.map strV)[j]? = _
    rw [e2, List.getElem?_map, hs]; rfl
set_option maxHeartbeats 2000000 in
set_option maxRecDepth 100000 in
theorem text_I {nad seq : Int} {more : Bool} {code : Int} {answer : Bool} {A : Option Addr} {n c : Nat} {inf hx : List UInt8} {ws : List (List UInt8)} {w : World} (h : IsB w A n c inf) (hck : checkE nad 0 seq more code answer inf = 0) (hn : 0 ≤ nad ∧ nad ≤ 254)
    (hh : ∀ (w : World) b, w.heap[b]? = some (.cells #[.int .u8 nad] 5 (0, 0)) → Calls Try.prog 11 #[.slice (some ⟨b, 0, none⟩) 1 1] w fun e w' => e = .returned (strV hx) ∧ Below w.heap.size w w')
    (hwd : ∀ w, IsB w A n c inf → Calls Try.prog 58 #[.agg #[], .agg #[.int .i64 nad, .int .i64 0, .int .i64 seq, .bool more, .int .i64 code, .bool answer, .slice A n c]] w fun e w' => ∃ v, e = .returned v ∧ SS v w' ws ∧ Below w.heap.size w w') (hs : smallS ([73] :: hx :: ws)) (hne : 0 < ws.length) :
    Calls Try.prog 4 #[.agg #[.int .i64 nad, .int .i64 0, .int .i64 seq, .bool more, .int .i64 code, .bool answer, .slice A n c]] w fun e w' => e = .returned (strV (Lib.join ([73] :: hx :: ws) [32])) ∧ Below w.heap.size w w' := by
  have hW : Below w.heap.size w (w.alloc (.cells #[.int .i64 nad, .int .i64 0, .int .i64 seq, .bool more, .int .i64 code, .bool answer, .slice A n c] 24)) := (Below.refl _ _).alloc (Nat.le_refl _) _
  have hck2 := check_any nad 0 seq more code answer A n c inf (w.alloc (.cells #[.int .i64 nad, .int .i64 0, .int .i64 seq, .bool more, .int .i64 code, .bool answer, .slice A n c] 24)) (h.below hW)
  rw [hck] at hck2
  have hcl0 : ∀ j v, [.int .i64 nad, .int .i64 0, .int .i64 seq, .bool more, .int .i64 code, .bool answer, .slice A n c][j]? = some v → (w.alloc (.cells #[.int .i64 nad, .int .i64 0, .int .i64 seq, .bool more, .int .i64 code, .bool answer, .slice A n c] 24)).cell? ⟨w.heap.size, j, none⟩ = some v := fun j v hv => (cell_new w _ _ j).trans hv
  have H0 := Lib.hid (And.intro hcl0 (And.intro h hW))
  have HC := Lib.hid hck2
  have HH := Lib.hid hh
  have HWD := Lib.hid hwd
  have HS := Lib.hid hs
  have HN := Lib.hid hne
  clear hcl0 h hW hck hck2 hh hwd hs hne
  go_enter Try.func4, Try.ntmps4
  go_wp2_with fail
  refine HC.out.mono ?_
  rintro e w1 ⟨rfl, hb1⟩
  have hcl : ∀ j v, [.int .i64 nad, .int .i64 0, .int .i64 seq, .bool more, .int .i64 code, .bool answer, .slice A n c][j]? = some v → w1.cell? ⟨w.heap.size, j, none⟩ = some v := fun j v hv => (hb1.cell (p := ⟨w.heap.size, j, none⟩) (by simp)).trans (H0.out.1 j v hv)
  have hp1 := hcl 1 _ rfl
  have HX := Lib.hid (And.intro hcl (And.intro (show w.heap.size < w1.heap.size by have := hb1.size; simp at this; omega) ((H0.out.2.1.below H0.out.2.2).below hb1)))
  have HW := Lib.hid (H0.out.2.2.trans (hb1.mono (by simp)))
  clear hcl hb1
  go_wp2_with fail
  refine (kindOf_I _).mono ?_
  rintro e w2 ⟨rfl, rfl⟩
  clear hp1
  go_wp2_with fail
  refine wp_region_list' (T := TB) [St.is (.iface 44 (.agg #[])), St.is (strV [73]), St.is (.pointer (some ⟨w.heap.size, 0, none⟩)), St.is (.int .i64 nad), St.is (.int .u8 nad), St.pred (fun v' w' => ∃ b, v' = .slice (some ⟨b, 0, none⟩) 1 1 ∧ w'.heap[b]? = some (.cells #[.int .u8 nad] 5 (0, 0))) (fun _ _ _ h q => by obtain ⟨b, e, q⟩ := q; exact ⟨b, e, by rw [h.block b (heap_lt q)]; exact q⟩), St.is (strV hx), St.pred (fun v' w' => ∃ b, v' = .slice (some ⟨b, 0, none⟩) 2 2 ∧ w'.heap[b]? = some (.cells #[strV [73], strV hx] 9 (0, 0))) (fun _ _ _ h q => by obtain ⟨b, e, q⟩ := q; exact ⟨b, e, by rw [h.block b (heap_lt q)]; exact q⟩), St.is (.iface 44 (.agg #[])), St.is (.agg #[.int .i64 nad, .int .i64 0, .int .i64 seq, .bool more, .int .i64 code, .bool answer, .slice A n c]), St.pred (fun v' w' => SS v' w' ws) (fun _ _ _ h q => q.below h), St.pred (fun v' w' => SS v' w' ([73] :: hx :: ws)) (fun _ _ _ h q => q.below h), St.pred (fun v' w' => SS v' w' ([73] :: hx :: ws)) (fun _ _ _ h q => q.below h)] (by kernel_rfl) (by kernel_rfl) (TB.refl) (TB.trans) ⟨?s0, ?s1, ?s2, ?s3, ?s4, ?s5, ?s6, ?s7, ?s8, ?s9, ?s10, ?s11, ?s12, trivial⟩ ?hfin
  case s0 =>
    intro a w' K hT hf hw hK
    refine step_free ?_ ?_
    · rfl
    have h3 : a.tmps[3]?.getD undef = .iface 44 (.agg #[]) := hf 3 (by kernel_rfl)
    clear hf hw
    go_simp
    exact hK _ _ (TB.refl _) rfl
  case s1 =>
    intro a w' K hT hf hw hK
    refine step_free ?_ ?_
    · rfl
    have h11 : a.tmps[11]?.getD undef = .iface 44 (.agg #[]) := hw.1
    clear hf hw
    go_simp
    refine (letter_I _).mono ?_
    rintro e w2 ⟨rfl, rfl⟩
    exact hK _ _ (TB.refl _) rfl
  case s2 =>
    intro a w' K hT hf hw hK
    refine step_free ?_ ?_
    · rfl
    have h1 : a.tmps[1]?.getD undef = .pointer (some ⟨w.heap.size, 0, none⟩) := hf 1 (by kernel_rfl)
    clear hf hw
    go_simp
    exact hK _ _ (TB.refl _) rfl
  case s3 =>
    intro a w' K hT hf hw hK
    refine step_free ?_ ?_
    · rfl
    have h13 : a.tmps[13]?.getD undef = .pointer (some ⟨w.heap.size, 0, none⟩) := hw.1
    clear hf hw
    have hc0 := (hT.cell (b := w.heap.size) (o := 0) (HX.out.2.1)).trans (HX.out.1 0 _ rfl)
    have hc1 := (hT.cell (b := w.heap.size) (o := 1) (HX.out.2.1)).trans (HX.out.1 1 _ rfl)
    have hc2 := (hT.cell (b := w.heap.size) (o := 2) (HX.out.2.1)).trans (HX.out.1 2 _ rfl)
    have hc3 := (hT.cell (b := w.heap.size) (o := 3) (HX.out.2.1)).trans (HX.out.1 3 _ rfl)
    have hc4 := (hT.cell (b := w.heap.size) (o := 4) (HX.out.2.1)).trans (HX.out.1 4 _ rfl)
    have hc5 := (hT.cell (b := w.heap.size) (o := 5) (HX.out.2.1)).trans (HX.out.1 5 _ rfl)
    have hc6 := (hT.cell (b := w.heap.size) (o := 6) (HX.out.2.1)).trans (HX.out.1 6 _ rfl)
    go_simp
    exact hK _ _ (TB.refl _) rfl
  case s4 =>
    intro a w' K hT hf hw hK
    refine step_free ?_ ?_
    · rfl
    have h14 : a.tmps[14]?.getD undef = .int .i64 nad := hw.1
    clear hf hw
    go_simp
    exact hK _ _ (TB.refl _) (congrArg (Value.int .u8) (show IntKind.u8.wrap nad = nad by rw [wu8]; omega))
  case s5 =>
    intro a w' K hT hf hw hK
    refine step_free ?_ ?_
    · rfl
    have h15 : a.tmps[15]?.getD undef = .int .u8 nad := hw.1
    clear hf hw
    go_simp
    exact hK _ _ (TB.alloc _ _) ⟨_, rfl, heap_alloc_new _ _⟩
  case s6 =>
    intro a w' K hT hf hw hK
    refine step_free ?_ ?_
    · rfl
    have h16 := hw.1
    clear hf hw
    obtain ⟨b1, e1, hb1⟩ := h16
    have h16 : a.tmps[16]?.getD undef = .slice (some ⟨b1, 0, none⟩) 1 1 := e1
    clear e1
    go_simp
    refine (HH.out _ _ hb1).mono ?_
    rintro e w2 ⟨rfl, hb2⟩
    exact hK _ _ hb2 rfl
  case s7 =>
    intro a w' K hT hf hw hK
    refine step_free ?_ ?_
    · rfl
    have h12 : a.tmps[12]?.getD undef = strV [73] := hw.1
    have h17 : a.tmps[17]?.getD undef = strV hx := hw.2.1
    clear hf hw
    go_simp
    exact hK _ _ (TB.alloc _ _) ⟨_, rfl, heap_alloc_new _ _⟩
  case s8 =>
    intro a w' K hT hf hw hK
    refine step_free ?_ ?_
    · rfl
    have h3 : a.tmps[3]?.getD undef = .iface 44 (.agg #[]) := hf 3 (by kernel_rfl)
    clear hf hw
    go_simp
    exact hK _ _ (TB.refl _) rfl
  case s9 =>
    intro a w' K hT hf hw hK
    refine step_free ?_ ?_
    · rfl
    have h1 : a.tmps[1]?.getD undef = .pointer (some ⟨w.heap.size, 0, none⟩) := hf 1 (by kernel_rfl)
    clear hf hw
    have hc0 := (hT.cell (b := w.heap.size) (o := 0) (HX.out.2.1)).trans (HX.out.1 0 _ rfl)
    have hc1 := (hT.cell (b := w.heap.size) (o := 1) (HX.out.2.1)).trans (HX.out.1 1 _ rfl)
    have hc2 := (hT.cell (b := w.heap.size) (o := 2) (HX.out.2.1)).trans (HX.out.1 2 _ rfl)
    have hc3 := (hT.cell (b := w.heap.size) (o := 3) (HX.out.2.1)).trans (HX.out.1 3 _ rfl)
    have hc4 := (hT.cell (b := w.heap.size) (o := 4) (HX.out.2.1)).trans (HX.out.1 4 _ rfl)
    have hc5 := (hT.cell (b := w.heap.size) (o := 5) (HX.out.2.1)).trans (HX.out.1 5 _ rfl)
    have hc6 := (hT.cell (b := w.heap.size) (o := 6) (HX.out.2.1)).trans (HX.out.1 6 _ rfl)
    go_simp
    exact hK _ _ (TB.refl _) rfl
  case s10 =>
    intro a w' K hT hf hw hK
    refine step_free ?_ ?_
    · rfl
    have h19 : a.tmps[19]?.getD undef = .iface 44 (.agg #[]) := hw.1
    have h20 : a.tmps[20]?.getD undef = .agg #[.int .i64 nad, .int .i64 0, .int .i64 seq, .bool more, .int .i64 code, .bool answer, .slice A n c] := hw.2.1
    clear hf hw
    go_simp
    refine (HWD.out w' (Rd.below (Rd.drew HX.out.2.2) hT)).mono ?_
    rintro e w2 ⟨v2, rfl, hs2, hb2⟩
    exact hK _ _ hb2 hs2
  case s11 =>
    intro a w' K hT hf hw hK
    refine step_free ?_ ?_
    · rfl
    have h18 := hw.1
    have h21 := hw.2.1
    clear hf hw
    obtain ⟨b1, e1, hb1⟩ := h18
    have h18 : a.tmps[18]?.getD undef = .slice (some ⟨b1, 0, none⟩) 2 2 := e1
    obtain ⟨b2, off, c2, e2, hc1, hc2, hcl⟩ := h21
    have h21 : a.tmps[21]?.getD undef = .slice (some ⟨b2, off, none⟩) ws.length c2 := e2
    obtain ⟨v2, w2, hrun, hb2, hss2⟩ := append_strs (w := w') 33 hb1 hcl HS.out.2 HN.out
    refine Lib.wp_append_run _ (.tmp 18) (.tmp 21) 33 33 rfl _ _ (eval_tmp a 18 h18) (eval_tmp a 21 h21) _ _ hrun ?_
    exact hK _ _ hb2 hss2
  case s12 =>
    intro a w' K hT hf hw hK
    refine step_free ?_ ?_
    · rfl
    have h22 := hw.1
    clear hf hw
    go_simp
    exact hK _ _ (TB.refl _) h22
  case hfin =>
    rintro vs w' hT ⟨f0, f1, f2, f3, f4, f5, f6, f7, f8, f9, f10, f11, f12, -⟩
    have e0 : vs 0 = .iface 44 (.agg #[]) := f0
    have e1 : vs 1 = strV [73] := f1
    have e2 : vs 2 = .pointer (some ⟨w.heap.size, 0, none⟩) := f2
    have e3 : vs 3 = .int .i64 nad := f3
    have e4 : vs 4 = .int .u8 nad := f4
    have e6 : vs 6 = strV hx := f6
    have e8 : vs 8 = .iface 44 (.agg #[]) := f8
    have e9 : vs 9 = .agg #[.int .i64 nad, .int .i64 0, .int .i64 seq, .bool more, .int .i64 code, .bool answer, .slice A n c] := f9
    simp only [putsAt, Act.put, e0, e1, e2, e3, e4, e6, e8, e9]
    simp only [List.setIfInBounds_toArray, List.set_cons_succ, List.set_cons_zero]
    clear e0 e1 e2 e3 e4 e6 e8 e9 f0 f1 f2 f3 f4 f6 f8 f9
    have hb := hT
    have HF := Lib.hid (And.intro f12 hb)
    obtain ⟨v12, hv12⟩ : ∃ v, vs 12 = v := ⟨_, rfl⟩
    simp only [hv12]
    have hss : SS v12 w' ([73] :: hx :: ws) := by rw [← hv12]; exact HF.out.1
    obtain ⟨b2, off, c2, rfl, hc1, hc2, hcl⟩ := hss
    have HJ := Lib.hid (show SS (.slice (some ⟨b2, off, none⟩) ([73] :: hx :: ws).length c2) w' ([73] :: hx :: ws) from ⟨b2, off, c2, rfl, hc1, hc2, hcl⟩)
    clear hv12 hc1 hc2 hcl f12
    go_wp2_with fail
    refine (join_walk HJ.out HS.out.1 HS.out.2).mono ?_
    rintro e w2 ⟨rfl, hb2⟩
    have HE := Lib.hid hb2
    clear hb2
    go_wp2_with fail
    go_ret
    exact ⟨rfl, (HW.out.drew.trans (HF.out.2.mono (show w.heap.size ≤ _ from HW.out.size))).trans (HE.out.mono (Nat.le_trans HW.out.size HF.out.2.size))⟩
set_option maxHeartbeats 2000000 in
set_option maxRecDepth 100000 in
theorem text_R {nad seq : Int} {more : Bool} {code : Int} {answer : Bool} {A : Option Addr} {n c : Nat} {inf hx : List UInt8} {ws : List (List UInt8)} {w : World} (h : IsB w A n c inf) (hck : checkE nad 1 seq more code answer inf = 0) (hn : 0 ≤ nad ∧ nad ≤ 254)
    (hh : ∀ (w : World) b, w.heap[b]? = some (.cells #[.int .u8 nad] 5 (0, 0)) → Calls Try.prog 11 #[.slice (some ⟨b, 0, none⟩) 1 1] w fun e w' => e = .returned (strV hx) ∧ Below w.heap.size w w')
    (hwd : ∀ w, IsB w A n c inf → Calls Try.prog 80 #[.agg #[], .agg #[.int .i64 nad, .int .i64 1, .int .i64 seq, .bool more, .int .i64 code, .bool answer, .slice A n c]] w fun e w' => ∃ v, e = .returned v ∧ SS v w' ws ∧ Below w.heap.size w w') (hs : smallS ([82] :: hx :: ws)) (hne : 0 < ws.length) :
    Calls Try.prog 4 #[.agg #[.int .i64 nad, .int .i64 1, .int .i64 seq, .bool more, .int .i64 code, .bool answer, .slice A n c]] w fun e w' => e = .returned (strV (Lib.join ([82] :: hx :: ws) [32])) ∧ Below w.heap.size w w' := by
  have hW : Below w.heap.size w (w.alloc (.cells #[.int .i64 nad, .int .i64 1, .int .i64 seq, .bool more, .int .i64 code, .bool answer, .slice A n c] 24)) := (Below.refl _ _).alloc (Nat.le_refl _) _
  have hck2 := check_any nad 1 seq more code answer A n c inf (w.alloc (.cells #[.int .i64 nad, .int .i64 1, .int .i64 seq, .bool more, .int .i64 code, .bool answer, .slice A n c] 24)) (h.below hW)
  rw [hck] at hck2
  have hcl0 : ∀ j v, [.int .i64 nad, .int .i64 1, .int .i64 seq, .bool more, .int .i64 code, .bool answer, .slice A n c][j]? = some v → (w.alloc (.cells #[.int .i64 nad, .int .i64 1, .int .i64 seq, .bool more, .int .i64 code, .bool answer, .slice A n c] 24)).cell? ⟨w.heap.size, j, none⟩ = some v := fun j v hv => (cell_new w _ _ j).trans hv
  have H0 := Lib.hid (And.intro hcl0 (And.intro h hW))
  have HC := Lib.hid hck2
  have HH := Lib.hid hh
  have HWD := Lib.hid hwd
  have HS := Lib.hid hs
  have HN := Lib.hid hne
  clear hcl0 h hW hck hck2 hh hwd hs hne
  go_enter Try.func4, Try.ntmps4
  go_wp2_with fail
  refine HC.out.mono ?_
  rintro e w1 ⟨rfl, hb1⟩
  have hcl : ∀ j v, [.int .i64 nad, .int .i64 1, .int .i64 seq, .bool more, .int .i64 code, .bool answer, .slice A n c][j]? = some v → w1.cell? ⟨w.heap.size, j, none⟩ = some v := fun j v hv => (hb1.cell (p := ⟨w.heap.size, j, none⟩) (by simp)).trans (H0.out.1 j v hv)
  have hp1 := hcl 1 _ rfl
  have HX := Lib.hid (And.intro hcl (And.intro (show w.heap.size < w1.heap.size by have := hb1.size; simp at this; omega) ((H0.out.2.1.below H0.out.2.2).below hb1)))
  have HW := Lib.hid (H0.out.2.2.trans (hb1.mono (by simp)))
  clear hcl hb1
  go_wp2_with fail
  refine (kindOf_R _).mono ?_
  rintro e w2 ⟨rfl, rfl⟩
  clear hp1
  go_wp2_with fail
  refine wp_region_list' (T := TB) [St.is (.iface 50 (.agg #[])), St.is (strV [82]), St.is (.pointer (some ⟨w.heap.size, 0, none⟩)), St.is (.int .i64 nad), St.is (.int .u8 nad), St.pred (fun v' w' => ∃ b, v' = .slice (some ⟨b, 0, none⟩) 1 1 ∧ w'.heap[b]? = some (.cells #[.int .u8 nad] 5 (0, 0))) (fun _ _ _ h q => by obtain ⟨b, e, q⟩ := q; exact ⟨b, e, by rw [h.block b (heap_lt q)]; exact q⟩), St.is (strV hx), St.pred (fun v' w' => ∃ b, v' = .slice (some ⟨b, 0, none⟩) 2 2 ∧ w'.heap[b]? = some (.cells #[strV [82], strV hx] 9 (0, 0))) (fun _ _ _ h q => by obtain ⟨b, e, q⟩ := q; exact ⟨b, e, by rw [h.block b (heap_lt q)]; exact q⟩), St.is (.iface 50 (.agg #[])), St.is (.agg #[.int .i64 nad, .int .i64 1, .int .i64 seq, .bool more, .int .i64 code, .bool answer, .slice A n c]), St.pred (fun v' w' => SS v' w' ws) (fun _ _ _ h q => q.below h), St.pred (fun v' w' => SS v' w' ([82] :: hx :: ws)) (fun _ _ _ h q => q.below h), St.pred (fun v' w' => SS v' w' ([82] :: hx :: ws)) (fun _ _ _ h q => q.below h)] (by kernel_rfl) (by kernel_rfl) (TB.refl) (TB.trans) ⟨?s0, ?s1, ?s2, ?s3, ?s4, ?s5, ?s6, ?s7, ?s8, ?s9, ?s10, ?s11, ?s12, trivial⟩ ?hfin
  case s0 =>
    intro a w' K hT hf hw hK
    refine step_free ?_ ?_
    · rfl
    have h3 : a.tmps[3]?.getD undef = .iface 50 (.agg #[]) := hf 3 (by kernel_rfl)
    clear hf hw
    go_simp
    exact hK _ _ (TB.refl _) rfl
  case s1 =>
    intro a w' K hT hf hw hK
    refine step_free ?_ ?_
    · rfl
    have h11 : a.tmps[11]?.getD undef = .iface 50 (.agg #[]) := hw.1
    clear hf hw
    go_simp
    refine (letter_R _).mono ?_
    rintro e w2 ⟨rfl, rfl⟩
    exact hK _ _ (TB.refl _) rfl
  case s2 =>
    intro a w' K hT hf hw hK
    refine step_free ?_ ?_
    · rfl
    have h1 : a.tmps[1]?.getD undef = .pointer (some ⟨w.heap.size, 0, none⟩) := hf 1 (by kernel_rfl)
    clear hf hw
    go_simp
    exact hK _ _ (TB.refl _) rfl
  case s3 =>
    intro a w' K hT hf hw hK
    refine step_free ?_ ?_
    · rfl
    have h13 : a.tmps[13]?.getD undef = .pointer (some ⟨w.heap.size, 0, none⟩) := hw.1
    clear hf hw
    have hc0 := (hT.cell (b := w.heap.size) (o := 0) (HX.out.2.1)).trans (HX.out.1 0 _ rfl)
    have hc1 := (hT.cell (b := w.heap.size) (o := 1) (HX.out.2.1)).trans (HX.out.1 1 _ rfl)
    have hc2 := (hT.cell (b := w.heap.size) (o := 2) (HX.out.2.1)).trans (HX.out.1 2 _ rfl)
    have hc3 := (hT.cell (b := w.heap.size) (o := 3) (HX.out.2.1)).trans (HX.out.1 3 _ rfl)
    have hc4 := (hT.cell (b := w.heap.size) (o := 4) (HX.out.2.1)).trans (HX.out.1 4 _ rfl)
    have hc5 := (hT.cell (b := w.heap.size) (o := 5) (HX.out.2.1)).trans (HX.out.1 5 _ rfl)
    have hc6 := (hT.cell (b := w.heap.size) (o := 6) (HX.out.2.1)).trans (HX.out.1 6 _ rfl)
    go_simp
    exact hK _ _ (TB.refl _) rfl
  case s4 =>
    intro a w' K hT hf hw hK
    refine step_free ?_ ?_
    · rfl
    have h14 : a.tmps[14]?.getD undef = .int .i64 nad := hw.1
    clear hf hw
    go_simp
    exact hK _ _ (TB.refl _) (congrArg (Value.int .u8) (show IntKind.u8.wrap nad = nad by rw [wu8]; omega))
  case s5 =>
    intro a w' K hT hf hw hK
    refine step_free ?_ ?_
    · rfl
    have h15 : a.tmps[15]?.getD undef = .int .u8 nad := hw.1
    clear hf hw
    go_simp
    exact hK _ _ (TB.alloc _ _) ⟨_, rfl, heap_alloc_new _ _⟩
  case s6 =>
    intro a w' K hT hf hw hK
    refine step_free ?_ ?_
    · rfl
    have h16 := hw.1
    clear hf hw
    obtain ⟨b1, e1, hb1⟩ := h16
    have h16 : a.tmps[16]?.getD undef = .slice (some ⟨b1, 0, none⟩) 1 1 := e1
    clear e1
    go_simp
    refine (HH.out _ _ hb1).mono ?_
    rintro e w2 ⟨rfl, hb2⟩
    exact hK _ _ hb2 rfl
  case s7 =>
    intro a w' K hT hf hw hK
    refine step_free ?_ ?_
    · rfl
    have h12 : a.tmps[12]?.getD undef = strV [82] := hw.1
    have h17 : a.tmps[17]?.getD undef = strV hx := hw.2.1
    clear hf hw
    go_simp
    exact hK _ _ (TB.alloc _ _) ⟨_, rfl, heap_alloc_new _ _⟩
  case s8 =>
    intro a w' K hT hf hw hK
    refine step_free ?_ ?_
    · rfl
    have h3 : a.tmps[3]?.getD undef = .iface 50 (.agg #[]) := hf 3 (by kernel_rfl)
    clear hf hw
    go_simp
    exact hK _ _ (TB.refl _) rfl
  case s9 =>
    intro a w' K hT hf hw hK
    refine step_free ?_ ?_
    · rfl
    have h1 : a.tmps[1]?.getD undef = .pointer (some ⟨w.heap.size, 0, none⟩) := hf 1 (by kernel_rfl)
    clear hf hw
    have hc0 := (hT.cell (b := w.heap.size) (o := 0) (HX.out.2.1)).trans (HX.out.1 0 _ rfl)
    have hc1 := (hT.cell (b := w.heap.size) (o := 1) (HX.out.2.1)).trans (HX.out.1 1 _ rfl)
    have hc2 := (hT.cell (b := w.heap.size) (o := 2) (HX.out.2.1)).trans (HX.out.1 2 _ rfl)
    have hc3 := (hT.cell (b := w.heap.size) (o := 3) (HX.out.2.1)).trans (HX.out.1 3 _ rfl)
    have hc4 := (hT.cell (b := w.heap.size) (o := 4) (HX.out.2.1)).trans (HX.out.1 4 _ rfl)
    have hc5 := (hT.cell (b := w.heap.size) (o := 5) (HX.out.2.1)).trans (HX.out.1 5 _ rfl)
    have hc6 := (hT.cell (b := w.heap.size) (o := 6) (HX.out.2.1)).trans (HX.out.1 6 _ rfl)
    go_simp
    exact hK _ _ (TB.refl _) rfl
  case s10 =>
    intro a w' K hT hf hw hK
    refine step_free ?_ ?_
    · rfl
    have h19 : a.tmps[19]?.getD undef = .iface 50 (.agg #[]) := hw.1
    have h20 : a.tmps[20]?.getD undef = .agg #[.int .i64 nad, .int .i64 1, .int .i64 seq, .bool more, .int .i64 code, .bool answer, .slice A n c] := hw.2.1
    clear hf hw
    go_simp
    refine (HWD.out w' (Rd.below (Rd.drew HX.out.2.2) hT)).mono ?_
    rintro e w2 ⟨v2, rfl, hs2, hb2⟩
    exact hK _ _ hb2 hs2
  case s11 =>
    intro a w' K hT hf hw hK
    refine step_free ?_ ?_
    · rfl
    have h18 := hw.1
    have h21 := hw.2.1
    clear hf hw
    obtain ⟨b1, e1, hb1⟩ := h18
    have h18 : a.tmps[18]?.getD undef = .slice (some ⟨b1, 0, none⟩) 2 2 := e1
    obtain ⟨b2, off, c2, e2, hc1, hc2, hcl⟩ := h21
    have h21 : a.tmps[21]?.getD undef = .slice (some ⟨b2, off, none⟩) ws.length c2 := e2
    obtain ⟨v2, w2, hrun, hb2, hss2⟩ := append_strs (w := w') 33 hb1 hcl HS.out.2 HN.out
    refine Lib.wp_append_run _ (.tmp 18) (.tmp 21) 33 33 rfl _ _ (eval_tmp a 18 h18) (eval_tmp a 21 h21) _ _ hrun ?_
    exact hK _ _ hb2 hss2
  case s12 =>
    intro a w' K hT hf hw hK
    refine step_free ?_ ?_
    · rfl
    have h22 := hw.1
    clear hf hw
    go_simp
    exact hK _ _ (TB.refl _) h22
  case hfin =>
    rintro vs w' hT ⟨f0, f1, f2, f3, f4, f5, f6, f7, f8, f9, f10, f11, f12, -⟩
    have e0 : vs 0 = .iface 50 (.agg #[]) := f0
    have e1 : vs 1 = strV [82] := f1
    have e2 : vs 2 = .pointer (some ⟨w.heap.size, 0, none⟩) := f2
    have e3 : vs 3 = .int .i64 nad := f3
    have e4 : vs 4 = .int .u8 nad := f4
    have e6 : vs 6 = strV hx := f6
    have e8 : vs 8 = .iface 50 (.agg #[]) := f8
    have e9 : vs 9 = .agg #[.int .i64 nad, .int .i64 1, .int .i64 seq, .bool more, .int .i64 code, .bool answer, .slice A n c] := f9
    simp only [putsAt, Act.put, e0, e1, e2, e3, e4, e6, e8, e9]
    simp only [List.setIfInBounds_toArray, List.set_cons_succ, List.set_cons_zero]
    clear e0 e1 e2 e3 e4 e6 e8 e9 f0 f1 f2 f3 f4 f6 f8 f9
    have hb := hT
    have HF := Lib.hid (And.intro f12 hb)
    obtain ⟨v12, hv12⟩ : ∃ v, vs 12 = v := ⟨_, rfl⟩
    simp only [hv12]
    have hss : SS v12 w' ([82] :: hx :: ws) := by rw [← hv12]; exact HF.out.1
    obtain ⟨b2, off, c2, rfl, hc1, hc2, hcl⟩ := hss
    have HJ := Lib.hid (show SS (.slice (some ⟨b2, off, none⟩) ([82] :: hx :: ws).length c2) w' ([82] :: hx :: ws) from ⟨b2, off, c2, rfl, hc1, hc2, hcl⟩)
    clear hv12 hc1 hc2 hcl f12
    go_wp2_with fail
    refine (join_walk HJ.out HS.out.1 HS.out.2).mono ?_
    rintro e w2 ⟨rfl, hb2⟩
    have HE := Lib.hid hb2
    clear hb2
    go_wp2_with fail
    go_ret
    exact ⟨rfl, (HW.out.drew.trans (HF.out.2.mono (show w.heap.size ≤ _ from HW.out.size))).trans (HE.out.mono (Nat.le_trans HW.out.size HF.out.2.size))⟩
set_option maxHeartbeats 2000000 in
set_option maxRecDepth 100000 in
theorem text_S {nad seq : Int} {more : Bool} {code : Int} {answer : Bool} {A : Option Addr} {n c : Nat} {inf hx : List UInt8} {ws : List (List UInt8)} {w : World} (h : IsB w A n c inf) (hck : checkE nad 2 seq more code answer inf = 0) (hn : 0 ≤ nad ∧ nad ≤ 254)
    (hh : ∀ (w : World) b, w.heap[b]? = some (.cells #[.int .u8 nad] 5 (0, 0)) → Calls Try.prog 11 #[.slice (some ⟨b, 0, none⟩) 1 1] w fun e w' => e = .returned (strV hx) ∧ Below w.heap.size w w')
    (hwd : ∀ w, IsB w A n c inf → Calls Try.prog 77 #[.agg #[], .agg #[.int .i64 nad, .int .i64 2, .int .i64 seq, .bool more, .int .i64 code, .bool answer, .slice A n c]] w fun e w' => ∃ v, e = .returned v ∧ SS v w' ws ∧ Below w.heap.size w w') (hs : smallS ([83] :: hx :: ws)) (hne : 0 < ws.length) :
    Calls Try.prog 4 #[.agg #[.int .i64 nad, .int .i64 2, .int .i64 seq, .bool more, .int .i64 code, .bool answer, .slice A n c]] w fun e w' => e = .returned (strV (Lib.join ([83] :: hx :: ws) [32])) ∧ Below w.heap.size w w' := by
  have hW : Below w.heap.size w (w.alloc (.cells #[.int .i64 nad, .int .i64 2, .int .i64 seq, .bool more, .int .i64 code, .bool answer, .slice A n c] 24)) := (Below.refl _ _).alloc (Nat.le_refl _) _
  have hck2 := check_any nad 2 seq more code answer A n c inf (w.alloc (.cells #[.int .i64 nad, .int .i64 2, .int .i64 seq, .bool more, .int .i64 code, .bool answer, .slice A n c] 24)) (h.below hW)
  rw [hck] at hck2
  have hcl0 : ∀ j v, [.int .i64 nad, .int .i64 2, .int .i64 seq, .bool more, .int .i64 code, .bool answer, .slice A n c][j]? = some v → (w.alloc (.cells #[.int .i64 nad, .int .i64 2, .int .i64 seq, .bool more, .int .i64 code, .bool answer, .slice A n c] 24)).cell? ⟨w.heap.size, j, none⟩ = some v := fun j v hv => (cell_new w _ _ j).trans hv
  have H0 := Lib.hid (And.intro hcl0 (And.intro h hW))
  have HC := Lib.hid hck2
  have HH := Lib.hid hh
  have HWD := Lib.hid hwd
  have HS := Lib.hid hs
  have HN := Lib.hid hne
  clear hcl0 h hW hck hck2 hh hwd hs hne
  go_enter Try.func4, Try.ntmps4
  go_wp2_with fail
  refine HC.out.mono ?_
  rintro e w1 ⟨rfl, hb1⟩
  have hcl : ∀ j v, [.int .i64 nad, .int .i64 2, .int .i64 seq, .bool more, .int .i64 code, .bool answer, .slice A n c][j]? = some v → w1.cell? ⟨w.heap.size, j, none⟩ = some v := fun j v hv => (hb1.cell (p := ⟨w.heap.size, j, none⟩) (by simp)).trans (H0.out.1 j v hv)
  have hp1 := hcl 1 _ rfl
  have HX := Lib.hid (And.intro hcl (And.intro (show w.heap.size < w1.heap.size by have := hb1.size; simp at this; omega) ((H0.out.2.1.below H0.out.2.2).below hb1)))
  have HW := Lib.hid (H0.out.2.2.trans (hb1.mono (by simp)))
  clear hcl hb1
  go_wp2_with fail
  refine (kindOf_S _).mono ?_
  rintro e w2 ⟨rfl, rfl⟩
  clear hp1
  go_wp2_with fail
  refine wp_region_list' (T := TB) [St.is (.iface 46 (.agg #[])), St.is (strV [83]), St.is (.pointer (some ⟨w.heap.size, 0, none⟩)), St.is (.int .i64 nad), St.is (.int .u8 nad), St.pred (fun v' w' => ∃ b, v' = .slice (some ⟨b, 0, none⟩) 1 1 ∧ w'.heap[b]? = some (.cells #[.int .u8 nad] 5 (0, 0))) (fun _ _ _ h q => by obtain ⟨b, e, q⟩ := q; exact ⟨b, e, by rw [h.block b (heap_lt q)]; exact q⟩), St.is (strV hx), St.pred (fun v' w' => ∃ b, v' = .slice (some ⟨b, 0, none⟩) 2 2 ∧ w'.heap[b]? = some (.cells #[strV [83], strV hx] 9 (0, 0))) (fun _ _ _ h q => by obtain ⟨b, e, q⟩ := q; exact ⟨b, e, by rw [h.block b (heap_lt q)]; exact q⟩), St.is (.iface 46 (.agg #[])), St.is (.agg #[.int .i64 nad, .int .i64 2, .int .i64 seq, .bool more, .int .i64 code, .bool answer, .slice A n c]), St.pred (fun v' w' => SS v' w' ws) (fun _ _ _ h q => q.below h), St.pred (fun v' w' => SS v' w' ([83] :: hx :: ws)) (fun _ _ _ h q => q.below h), St.pred (fun v' w' => SS v' w' ([83] :: hx :: ws)) (fun _ _ _ h q => q.below h)] (by kernel_rfl) (by kernel_rfl) (TB.refl) (TB.trans) ⟨?s0, ?s1, ?s2, ?s3, ?s4, ?s5, ?s6, ?s7, ?s8, ?s9, ?s10, ?s11, ?s12, trivial⟩ ?hfin
  case s0 =>
    intro a w' K hT hf hw hK
    refine step_free ?_ ?_
    · rfl
    have h3 : a.tmps[3]?.getD undef = .iface 46 (.agg #[]) := hf 3 (by kernel_rfl)
    clear hf hw
    go_simp
    exact hK _ _ (TB.refl _) rfl
  case s1 =>
    intro a w' K hT hf hw hK
    refine step_free ?_ ?_
    · rfl
    have h11 : a.tmps[11]?.getD undef = .iface 46 (.agg #[]) := hw.1
    clear hf hw
    go_simp
    refine (letter_S _).mono ?_
    rintro e w2 ⟨rfl, rfl⟩
    exact hK _ _ (TB.refl _) rfl
  case s2 =>
    intro a w' K hT hf hw hK
    refine step_free ?_ ?_
    · rfl
    have h1 : a.tmps[1]?.getD undef = .pointer (some ⟨w.heap.size, 0, none⟩) := hf 1 (by kernel_rfl)
    clear hf hw
    go_simp
    exact hK _ _ (TB.refl _) rfl
  case s3 =>
    intro a w' K hT hf hw hK
    refine step_free ?_ ?_
    · rfl
    have h13 : a.tmps[13]?.getD undef = .pointer (some ⟨w.heap.size, 0, none⟩) := hw.1
    clear hf hw
    have hc0 := (hT.cell (b := w.heap.size) (o := 0) (HX.out.2.1)).trans (HX.out.1 0 _ rfl)
    have hc1 := (hT.cell (b := w.heap.size) (o := 1) (HX.out.2.1)).trans (HX.out.1 1 _ rfl)
    have hc2 := (hT.cell (b := w.heap.size) (o := 2) (HX.out.2.1)).trans (HX.out.1 2 _ rfl)
    have hc3 := (hT.cell (b := w.heap.size) (o := 3) (HX.out.2.1)).trans (HX.out.1 3 _ rfl)
    have hc4 := (hT.cell (b := w.heap.size) (o := 4) (HX.out.2.1)).trans (HX.out.1 4 _ rfl)
    have hc5 := (hT.cell (b := w.heap.size) (o := 5) (HX.out.2.1)).trans (HX.out.1 5 _ rfl)
    have hc6 := (hT.cell (b := w.heap.size) (o := 6) (HX.out.2.1)).trans (HX.out.1 6 _ rfl)
    go_simp
    exact hK _ _ (TB.refl _) rfl
  case s4 =>
    intro a w' K hT hf hw hK
    refine step_free ?_ ?_
    · rfl
    have h14 : a.tmps[14]?.getD undef = .int .i64 nad := hw.1
    clear hf hw
    go_simp
    exact hK _ _ (TB.refl _) (congrArg (Value.int .u8) (show IntKind.u8.wrap nad = nad by rw [wu8]; omega))
  case s5 =>
    intro a w' K hT hf hw hK
    refine step_free ?_ ?_
    · rfl
    have h15 : a.tmps[15]?.getD undef = .int .u8 nad := hw.1
    clear hf hw
    go_simp
    exact hK _ _ (TB.alloc _ _) ⟨_, rfl, heap_alloc_new _ _⟩
  case s6 =>
    intro a w' K hT hf hw hK
    refine step_free ?_ ?_
    · rfl
    have h16 := hw.1
    clear hf hw
    obtain ⟨b1, e1, hb1⟩ := h16
    have h16 : a.tmps[16]?.getD undef = .slice (some ⟨b1, 0, none⟩) 1 1 := e1
    clear e1
    go_simp
    refine (HH.out _ _ hb1).mono ?_
    rintro e w2 ⟨rfl, hb2⟩
    exact hK _ _ hb2 rfl
  case s7 =>
    intro a w' K hT hf hw hK
    refine step_free ?_ ?_
    · rfl
    have h12 : a.tmps[12]?.getD undef = strV [83] := hw.1
    have h17 : a.tmps[17]?.getD undef = strV hx := hw.2.1
    clear hf hw
    go_simp
    exact hK _ _ (TB.alloc _ _) ⟨_, rfl, heap_alloc_new _ _⟩
  case s8 =>
    intro a w' K hT hf hw hK
    refine step_free ?_ ?_
    · rfl
    have h3 : a.tmps[3]?.getD undef = .iface 46 (.agg #[]) := hf 3 (by kernel_rfl)
    clear hf hw
    go_simp
    exact hK _ _ (TB.refl _) rfl
  case s9 =>
    intro a w' K hT hf hw hK
    refine step_free ?_ ?_
    · rfl
    have h1 : a.tmps[1]?.getD undef = .pointer (some ⟨w.heap.size, 0, none⟩) := hf 1 (by kernel_rfl)
    clear hf hw
    have hc0 := (hT.cell (b := w.heap.size) (o := 0) (HX.out.2.1)).trans (HX.out.1 0 _ rfl)
    have hc1 := (hT.cell (b := w.heap.size) (o := 1) (HX.out.2.1)).trans (HX.out.1 1 _ rfl)
    have hc2 := (hT.cell (b := w.heap.size) (o := 2) (HX.out.2.1)).trans (HX.out.1 2 _ rfl)
    have hc3 := (hT.cell (b := w.heap.size) (o := 3) (HX.out.2.1)).trans (HX.out.1 3 _ rfl)
    have hc4 := (hT.cell (b := w.heap.size) (o := 4) (HX.out.2.1)).trans (HX.out.1 4 _ rfl)
    have hc5 := (hT.cell (b := w.heap.size) (o := 5) (HX.out.2.1)).trans (HX.out.1 5 _ rfl)
    have hc6 := (hT.cell (b := w.heap.size) (o := 6) (HX.out.2.1)).trans (HX.out.1 6 _ rfl)
    go_simp
    exact hK _ _ (TB.refl _) rfl
  case s10 =>
    intro a w' K hT hf hw hK
    refine step_free ?_ ?_
    · rfl
    have h19 : a.tmps[19]?.getD undef = .iface 46 (.agg #[]) := hw.1
    have h20 : a.tmps[20]?.getD undef = .agg #[.int .i64 nad, .int .i64 2, .int .i64 seq, .bool more, .int .i64 code, .bool answer, .slice A n c] := hw.2.1
    clear hf hw
    go_simp
    refine (HWD.out w' (Rd.below (Rd.drew HX.out.2.2) hT)).mono ?_
    rintro e w2 ⟨v2, rfl, hs2, hb2⟩
    exact hK _ _ hb2 hs2
  case s11 =>
    intro a w' K hT hf hw hK
    refine step_free ?_ ?_
    · rfl
    have h18 := hw.1
    have h21 := hw.2.1
    clear hf hw
    obtain ⟨b1, e1, hb1⟩ := h18
    have h18 : a.tmps[18]?.getD undef = .slice (some ⟨b1, 0, none⟩) 2 2 := e1
    obtain ⟨b2, off, c2, e2, hc1, hc2, hcl⟩ := h21
    have h21 : a.tmps[21]?.getD undef = .slice (some ⟨b2, off, none⟩) ws.length c2 := e2
    obtain ⟨v2, w2, hrun, hb2, hss2⟩ := append_strs (w := w') 33 hb1 hcl HS.out.2 HN.out
    refine Lib.wp_append_run _ (.tmp 18) (.tmp 21) 33 33 rfl _ _ (eval_tmp a 18 h18) (eval_tmp a 21 h21) _ _ hrun ?_
    exact hK _ _ hb2 hss2
  case s12 =>
    intro a w' K hT hf hw hK
    refine step_free ?_ ?_
    · rfl
    have h22 := hw.1
    clear hf hw
    go_simp
    exact hK _ _ (TB.refl _) h22
  case hfin =>
    rintro vs w' hT ⟨f0, f1, f2, f3, f4, f5, f6, f7, f8, f9, f10, f11, f12, -⟩
    have e0 : vs 0 = .iface 46 (.agg #[]) := f0
    have e1 : vs 1 = strV [83] := f1
    have e2 : vs 2 = .pointer (some ⟨w.heap.size, 0, none⟩) := f2
    have e3 : vs 3 = .int .i64 nad := f3
    have e4 : vs 4 = .int .u8 nad := f4
    have e6 : vs 6 = strV hx := f6
    have e8 : vs 8 = .iface 46 (.agg #[]) := f8
    have e9 : vs 9 = .agg #[.int .i64 nad, .int .i64 2, .int .i64 seq, .bool more, .int .i64 code, .bool answer, .slice A n c] := f9
    simp only [putsAt, Act.put, e0, e1, e2, e3, e4, e6, e8, e9]
    simp only [List.setIfInBounds_toArray, List.set_cons_succ, List.set_cons_zero]
    clear e0 e1 e2 e3 e4 e6 e8 e9 f0 f1 f2 f3 f4 f6 f8 f9
    have hb := hT
    have HF := Lib.hid (And.intro f12 hb)
    obtain ⟨v12, hv12⟩ : ∃ v, vs 12 = v := ⟨_, rfl⟩
    simp only [hv12]
    have hss : SS v12 w' ([83] :: hx :: ws) := by rw [← hv12]; exact HF.out.1
    obtain ⟨b2, off, c2, rfl, hc1, hc2, hcl⟩ := hss
    have HJ := Lib.hid (show SS (.slice (some ⟨b2, off, none⟩) ([83] :: hx :: ws).length c2) w' ([83] :: hx :: ws) from ⟨b2, off, c2, rfl, hc1, hc2, hcl⟩)
    clear hv12 hc1 hc2 hcl f12
    go_wp2_with fail
    refine (join_walk HJ.out HS.out.1 HS.out.2).mono ?_
    rintro e w2 ⟨rfl, hb2⟩
    have HE := Lib.hid hb2
    clear hb2
    go_wp2_with fail
    go_ret
    exact ⟨rfl, (HW.out.drew.trans (HF.out.2.mono (show w.heap.size ≤ _ from HW.out.size))).trans (HE.out.mono (Nat.le_trans HW.out.size HF.out.2.size))⟩
end Go.Proofs.Ytomdjcodgkoapaa.En

/- block.Text, whatever the block; as an entry of the engine. -/
namespace Go.Proofs.Ytomdjcodgkoapaa.En
open Go Go.RowKit
set_option linter.unusedVariables false
theorem rep_isB {w : World} {A : Option Addr} {n c : Nat} {xs : List UInt8} (h : IsB w A n c xs) : RepV (immG T) w (.bytes xs) (.slice A n c) := by
  refine .bytes xs A n c (by simpa using h.len) h.cap h.max fun k x hx => ?_
  obtain ⟨b, off, e, h2⟩ := Rd.at_ h k (u8 x) (by simp [hx])
  exact ⟨b, off, e, trivial, h2⟩
theorem one_byte {w : World} {b : Nat} {nad : Int} (hn : 0 ≤ nad ∧ nad ≤ 254) (h : w.heap[b]? = some (.cells #[.int .u8 nad] 5 (0, 0))) : IsB w (some ⟨b, 0, none⟩) 1 1 [UInt8.ofNat nad.toNat] := by
  refine ⟨rfl, Nat.le_refl _, by unfold maxLen; omega, fun k v hv => ⟨b, 0, rfl, ?_⟩⟩
  rcases k with _ | k
  · simp at hv; subst hv
    rw [cell_of_row w b (0 + 0) _ _ _ h]
    have : ((UInt8.ofNat nad.toNat).toNat : Int) = nad := by rw [UInt8.toNat_ofNat', Nat.mod_eq_of_lt (by omega), Int.toNat_of_nonneg hn.1]
    show some (Value.int .u8 nad) = some (u8 _)
    unfold u8
    rw [this]
  · simp at hv
theorem hex_walk {w : World} {A : Option Addr} {n c : Nat} {xs : List UInt8} (h : IsB w A n c xs) (hl : xs.length ≤ 1000) : Calls Try.prog 11 #[.slice A n c] w fun e w' => e = .returned (strV (hexS xs)) ∧ Below w.heap.size w w' := by
  refine (p_Hex 2000 xs _ (Hex_eq 2000 xs (by omega) (by omega)) ⟨0, fun _ _ => False⟩ (immG T) w [.slice A n c] rfl ⟨rfl, fun i y hi => ?_⟩).mono ?_
  · rcases i with _ | i
    · simp at hi; subst hi; exact .v _ _ _ (rep_isB h) trivial
    · simp at hi
  · rintro e w' ⟨us', g', rfl, hr, ht⟩
    obtain ⟨hl, hr⟩ := hr ⟨0, fun _ _ => False⟩
    match us', hl with
    | [u], _ =>
    have hu := hr 0 _ rfl
    simp only [List.getD_cons_zero] at hu
    cases hu with | v _ _ _ hv _ => cases hv; exact ⟨rfl, below_of_pure ht⟩
theorem words_call {f : FuncId} {x0 x1 x2 : Int} {x3 : Bool} {x4 : Int} {x5 : Bool} {x6 : List UInt8} {ws : List (List UInt8)} (hne : 0 < ws.length)
    (hp : PureRet Try.prog T f [.agg [], .agg [.v (.int .i64 x0) .no, .v (.int .i64 x1) .no, .v (.int .i64 x2) .no, .v (.bool x3) .no, .v (.int .i64 x4) .no, .v (.bool x5) .no, .v (.bytes x6) .no]] [.v (.sl 9 (ws.map V.str)) .no])
    (i0 : -100000 ≤ x0 ∧ x0 ≤ 100000) (i1 : -100000 ≤ x1 ∧ x1 ≤ 100000) (i2 : -100000 ≤ x2 ∧ x2 ≤ 100000) (i4 : -100000 ≤ x4 ∧ x4 ≤ 100000) {w : World} {A : Option Addr} {n c : Nat} (h : IsB w A n c x6) :
    Calls Try.prog f #[.agg #[], .agg #[.int .i64 x0, .int .i64 x1, .int .i64 x2, .bool x3, .int .i64 x4, .bool x5, .slice A n c]] w fun e w' => ∃ v, e = .returned v ∧ SS v w' ws ∧ Below w.heap.size w w' := by
  have ri : ∀ x : Int, -100000 ≤ x ∧ x ≤ 100000 → IntKind.i64.min ≤ x ∧ x ≤ IntKind.i64.max := fun x hx => by
    show (-9223372036854775808 : Int) ≤ x ∧ x ≤ (9223372036854775807 : Int); omega
  refine (hp ⟨0, fun _ _ => False⟩ (immG T) w [.agg #[], .agg #[.int .i64 x0, .int .i64 x1, .int .i64 x2, .bool x3, .int .i64 x4, .bool x5, .slice A n c]] rfl ⟨rfl, fun i y hi => ?_⟩).mono ?_
  · rcases i with _ | _ | i
    · simp at hi; subst hi; exact .agg [] #[] rfl fun k y hk => by simp at hk
    · simp at hi; subst hi
      refine .agg _ _ rfl fun k y hk => ?_
      rcases k with _ | _ | _ | _ | _ | _ | _ | k
      · simp at hk; subst hk; exact .v _ _ _ (.int _ _ (ri _ i0)) trivial
      · simp at hk; subst hk; exact .v _ _ _ (.int _ _ (ri _ i1)) trivial
      · simp at hk; subst hk; exact .v _ _ _ (.int _ _ (ri _ i2)) trivial
      · simp at hk; subst hk; exact .v _ _ _ (.bool _) trivial
      · simp at hk; subst hk; exact .v _ _ _ (.int _ _ (ri _ i4)) trivial
      · simp at hk; subst hk; exact .v _ _ _ (.bool _) trivial
      · simp at hk; subst hk; exact .v _ _ _ (rep_isB h) trivial
      · simp at hk
    · simp at hi
  · rintro e w' ⟨us', g', rfl, hr, ht⟩
    obtain ⟨hl, hr⟩ := hr ⟨0, fun _ _ => False⟩
    match us', hl with
    | [u], _ =>
    have hu := hr 0 _ rfl
    simp only [List.getD_cons_zero] at hu
    refine ⟨u, rfl, ?_, below_of_pure ht⟩
    cases hu with
    | v _ _ _ hv _ =>
    cases hv with
    | sl e xs A' n' c' us hn hc hm hs hcell hrep =>
    rw [flatMap_str] at hcell hrep
    have hlen : ws.length = n' := by simpa using hn
    subst hlen
    obtain ⟨s0, hs0⟩ : ∃ s, ws[0]? = some s := ⟨_, List.getElem?_eq_getElem hne⟩
    obtain ⟨b, off, rfl, _, _⟩ := hcell 0 (.str s0) (by rw [List.getElem?_map, hs0]; rfl)
    refine ⟨b, off, c', rfl, hc, hm, fun j s hs2 => ?_⟩
    have hk : (ws.map V.str)[j]? = some (.str s) := by rw [List.getElem?_map, hs2]; rfl
    obtain ⟨b', off', e', _, h2⟩ := hcell j _ hk
    injection e' with e'
    injection e' with e1 e2
    subst e1; subst e2
    have h3 := hrep j _ hk
    rw [h2]
    generalize us j = q at h3
    cases h3
    rfl
theorem Itoa0 : ∀ n : Fin 100, s_Itoa 0 (n.val : Int) = some (if n.val < 10 then [UInt8.ofNat (48 + n.val)] else [UInt8.ofNat (48 + n.val / 10), UInt8.ofNat (48 + n.val % 10)]) := by decide +kernel
theorem Itoa_seq (N : Nat) {seq : Int} (h : seq = 0 ∨ seq = 1) : s_Itoa N seq = some (seqT seq) := by
  rcases h with rfl | rfl
  · exact Itoa0 ⟨0, by omega⟩
  · exact Itoa0 ⟨1, by omega⟩
theorem inf_eq (N : Nat) (inf : List UInt8) (h : inf.length < N) (h2 : inf.length ≤ 1000) : s_binf N inf = some (infT inf) := by
  unfold s_binf infT
  rw [br_dec]
  by_cases c : inf = []
  · subst c; rfl
  · rw [if_neg c, if_neg (fun e => c (List.length_eq_zero_iff.1 (by omega))), Hex_eq N inf h (by omega), bnd1_mk]
end Go.Proofs.Ytomdjcodgkoapaa.En

/- block.Text, whatever the block, as an entry of the engine; the reference's Text. -/
namespace Go.Proofs.Ytomdjcodgkoapaa.En
open Go Go.RowKit
set_option linter.unusedVariables false
theorem wordsI_eq (N : Nat) {nad kind seq : Int} {more : Bool} {code : Int} {answer : Bool} {inf : List UInt8} (hs : seq = 0 ∨ seq = 1) (h : inf.length < N) (h2 : inf.length ≤ 1000) :
    s_wordsI N nad kind seq more code answer inf = some ([seqT seq, moreT more, infT inf].map V.str) := by
  unfold s_wordsI
  rw [Itoa_seq N hs, inf_eq N inf h h2]
  cases more <;> rfl
theorem wordsR_eq (N : Nat) {nad kind seq : Int} {more : Bool} {code : Int} {answer : Bool} {inf : List UInt8} (hs : seq = 0 ∨ seq = 1) (hc : code = 0 ∨ code = 1 ∨ code = 2) :
    s_wordsR N nad kind seq more code answer inf = some ([seqT seq, rcT code].map V.str) := by
  unfold s_wordsR
  rw [Itoa_seq N hs]
  rcases hc with rfl | rfl | rfl <;> rfl
theorem wordsS_eq (N : Nat) {nad kind seq : Int} {more : Bool} {code : Int} {answer : Bool} {inf : List UInt8} (hc : code = 0 ∨ code = 1 ∨ code = 2 ∨ code = 3) (h : inf.length < N) (h2 : inf.length ≤ 1000) :
    s_wordsS N nad kind seq more code answer inf = some ([scT code, wayT answer, infT inf].map V.str) := by
  unfold s_wordsS
  rw [inf_eq N inf h h2]
  rcases hc with rfl | rfl | rfl | rfl <;> cases answer <;> rfl
theorem infT_len (inf : List UInt8) : (infT inf).length ≤ 2 * inf.length + 1 := by
  unfold infT
  split
  · simp
  · rw [hexS_len]; omega
theorem seqT_len (s : Int) : (seqT s).length = 1 := by unfold seqT; split <;> rfl
theorem moreT_len (b : Bool) : (moreT b).length = 4 := by cases b <;> rfl
theorem wayT_len (b : Bool) : (wayT b).length ≤ 7 := by cases b <;> decide
theorem rcT_len (c : Int) : (rcT c).length ≤ 5 := by unfold rcT; split <;> (try split) <;> simp
theorem scT_len (c : Int) : (scT c).length ≤ 6 := by unfold scT; split <;> (try split) <;> (try split) <;> simp
theorem lineT_len (nad kind seq : Int) (more : Bool) (code : Int) (answer : Bool) (inf : List UInt8) : (lineT nad kind seq more code answer inf).length ≤ 2 * inf.length + 100 := by
  have h1 := infT_len inf
  have h2 := seqT_len seq
  have h3 := moreT_len more
  have h4 := wayT_len answer
  have h5 := rcT_len code
  have h6 := scT_len code
  have h7 := hexS_len [UInt8.ofNat nad.toNat]
  simp only [List.length_cons, List.length_nil] at h7
  unfold lineT
  split
  · simp only [List.length_append, List.length_cons, List.length_nil]; omega
  split
  · simp only [List.length_append, List.length_cons, List.length_nil]; omega
  · simp only [List.length_append, List.length_cons, List.length_nil]; omega
theorem textT_len (nad kind seq : Int) (more : Bool) (code : Int) (answer : Bool) (inf : List UInt8) : (textT nad kind seq more code answer inf).length ≤ 608 := by
  unfold textT
  split
  · rename_i h
    have := (check_facts h).2.2
    have := lineT_len nad kind seq more code answer inf
    omega
  · simp
theorem joinI (nad seq : Int) (more : Bool) (code : Int) (answer : Bool) (inf : List UInt8) : Lib.join ([73] :: hexS [UInt8.ofNat nad.toNat] :: [seqT seq, moreT more, infT inf]) [32] = lineT nad 0 seq more code answer inf := by
  rw [Lib.join_cons]; simp [Lib.joinTail, lineT]
theorem joinR (nad seq : Int) (more : Bool) (code : Int) (answer : Bool) (inf : List UInt8) : Lib.join ([82] :: hexS [UInt8.ofNat nad.toNat] :: [seqT seq, rcT code]) [32] = lineT nad 1 seq more code answer inf := by
  rw [Lib.join_cons]; simp [Lib.joinTail, lineT]
theorem joinS (nad seq : Int) (more : Bool) (code : Int) (answer : Bool) (inf : List UInt8) : Lib.join ([83] :: hexS [UInt8.ofNat nad.toNat] :: [scT code, wayT answer, infT inf]) [32] = lineT nad 2 seq more code answer inf := by
  rw [Lib.join_cons]; simp [Lib.joinTail, lineT]
theorem text_bad {nad kind seq : Int} {more : Bool} {code : Int} {answer : Bool} {A : Option Addr} {n c : Nat} {inf : List UInt8} {w : World} (h : IsB w A n c inf) (hck : ¬ checkE nad kind seq more code answer inf = 0) :
    Calls Try.prog 4 #[.agg #[.int .i64 nad, .int .i64 kind, .int .i64 seq, .bool more, .int .i64 code, .bool answer, .slice A n c]] w fun e w' => e = .returned (strV []) ∧ Below w.heap.size w w' := by
  have hW : Below w.heap.size w (w.alloc (.cells #[.int .i64 nad, .int .i64 kind, .int .i64 seq, .bool more, .int .i64 code, .bool answer, .slice A n c] 24)) := (Below.refl _ _).alloc (Nat.le_refl _) _
  have hck2 := check_any nad kind seq more code answer A n c inf (w.alloc (.cells #[.int .i64 nad, .int .i64 kind, .int .i64 seq, .bool more, .int .i64 code, .bool answer, .slice A n c] 24)) (h.below hW)
  generalize hce : checkE nad kind seq more code answer inf = ce at hck hck2
  have hb0 : (ce == 0) = false := by simpa using hck
  have HC := Lib.hid hck2
  have HW := Lib.hid hW
  clear h hck hck2 hW hce
  go_enter Try.func4, Try.ntmps4
  go_wp2_with fail
  refine HC.out.mono ?_
  rintro e w1 ⟨rfl, hb1⟩
  have HB := Lib.hid (HW.out.trans (hb1.mono (by simp)))
  clear hb1
  go_wp2_with fail
  go_ret
  exact ⟨rfl, HB.out⟩
theorem Text_any (nad kind seq : Int) (more : Bool) (code : Int) (answer : Bool) (A : Option Addr) (n c : Nat) (inf : List UInt8) (w : World) (h : IsB w A n c inf) :
    Calls Try.prog 4 #[.agg #[.int .i64 nad, .int .i64 kind, .int .i64 seq, .bool more, .int .i64 code, .bool answer, .slice A n c]] w fun e w' => e = .returned (strV (textT nad kind seq more code answer inf)) ∧ Below w.heap.size w w' := by
  unfold textT
  by_cases hck : checkE nad kind seq more code answer inf = 0
  case neg => rw [if_neg hck]; exact text_bad h hck
  rw [if_pos hck]
  obtain ⟨hn, hk, hl⟩ := check_facts hck
  have hlen := lineT_len nad kind seq more code answer inf
  rcases hk with ⟨rfl, hs, rfl, rfl⟩ | ⟨rfl, hs, hc, rfl, rfl, rfl⟩ | ⟨rfl, rfl, hc, rfl⟩
  · have hj := joinI nad seq more 0 false inf
    rw [← hj] at hlen ⊢
    refine text_I (ws := [seqT seq, moreT more, infT inf]) h hck hn (fun w b hb => hex_walk (one_byte hn hb) (by simp)) (fun w hi => words_call (by simp) (p_wordsI 2000 _ _ _ _ _ _ _ _ (wordsI_eq 2000 hs (by omega) (by omega))) (by omega) (by omega) (by omega) (by omega) hi) ⟨by omega, by simp⟩ (by simp)
  · have hj := joinR nad seq false code false []
    rw [← hj] at hlen ⊢
    refine text_R (ws := [seqT seq, rcT code]) h hck hn (fun w b hb => hex_walk (one_byte hn hb) (by simp)) (fun w hi => words_call (by simp) (p_wordsR 2000 _ _ _ _ _ _ _ _ (wordsR_eq 2000 hs hc)) (by omega) (by omega) (by omega) (by omega) hi) ⟨by omega, by simp⟩ (by simp)
  · have hj := joinS nad 0 false code answer inf
    rw [← hj] at hlen ⊢
    refine text_S (ws := [scT code, wayT answer, infT inf]) h hck hn (fun w b hb => hex_walk (one_byte hn hb) (by simp)) (fun w hi => words_call (by simp) (p_wordsS 2000 _ _ _ _ _ _ _ _ (wordsS_eq 2000 hc (by omega) (by omega))) (by omega) (by omega) (by omega) (by omega) hi) ⟨by omega, by simp⟩ (by simp)
def s_bText (N : Nat) (x0 x1 x2 : Int) (x3 : Bool) (x4 : Int) (x5 : Bool) (x6 : List UInt8) : Option (List UInt8) := some (textT x0 x1 x2 x3 x4 x5 x6)
theorem p_bText (N : Nat) (x0 x1 x2 : Int) (x3 : Bool) (x4 : Int) (x5 : Bool) (x6 : List UInt8) (r0 : List UInt8) (h : s_bText N x0 x1 x2 x3 x4 x5 x6 = some r0) :
    PureRet Try.prog T 4 [.agg [.v (.int .i64 x0) .no, .v (.int .i64 x1) .no, .v (.int .i64 x2) .no, .v (.bool x3) .no, .v (.int .i64 x4) .no, .v (.bool x5) .no, .v (.bytes x6) .no]] [.v (.str r0) .no] := by
  injection h with h
  subst h
  intro E g w us hsz hus
  obtain ⟨hl, hr⟩ := hus
  match us, hl with
  | [u], _ =>
  have hu := hr 0 _ rfl
  simp only [List.getD_cons_zero] at hu
  obtain ⟨A, n, c, rfl, hB, _⟩ := blk_inv hu
  refine (Text_any x0 x1 x2 x3 x4 x5 A n c x6 w hB).mono ?_
  rintro e w' ⟨rfl, hb⟩
  have := textT_len x0 x1 x2 x3 x4 x5 x6
  exact pure_of_below hb fun g' w' => .str _ (by omega)
/-! The reference -/
theorem rhex_eq (N : Nat) (inf : List UInt8) (h : inf.length < N) (h2 : inf.length ≤ 1000) : s_rhex N inf = some (infT inf) := by
  unfold s_rhex infT
  rw [br_dec]
  by_cases c : inf = []
  · subst c; rfl
  · rw [if_neg c, if_neg (fun e => c (List.length_eq_zero_iff.1 (by omega))), rHex_eq N inf h (by omega), bnd1_mk]
set_option maxHeartbeats 2000000 in
theorem rText_eq (N : Nat) (hN : 1000 < N) (x0 x1 x2 : Int) (x3 : Bool) (x4 : Int) (x5 : Bool) (x6 : List UInt8) : s_rText N x0 x1 x2 x3 x4 x5 x6 = some (textT x0 x1 x2 x3 x4 x5 x6) := by
  unfold s_rText textT s_rCheck
  rw [bnd1_mk, br_not, br_dec]
  by_cases hck : checkE x0 x1 x2 x3 x4 x5 x6 = 0
  case neg => rw [if_neg hck, if_neg hck]
  obtain ⟨hn, hk, hl⟩ := check_facts hck
  rw [if_pos hck, if_pos hck]
  have hw : IntKind.u8.wrap x0 = x0 := by rw [wu8]; omega
  have hx := rHex_eq N [UInt8.ofNat x0.toNat] (by simp; omega) (by simp)
  have hi := rhex_eq N x6 (by omega) (by omega)
  have hl7 := hexS_len [UInt8.ofNat x0.toNat]
  have hil := infT_len x6
  simp only [List.length_cons, List.length_nil] at hl7
  clear hck
  unfold lineT
  rcases hk with ⟨rfl, hs, rfl, rfl⟩ | ⟨rfl, hs, hc, rfl, rfl, rfl⟩ | ⟨rfl, rfl, hc, rfl⟩
  · rw [hw, hx, bnd1_mk, hi]
    generalize hexS [UInt8.ofNat x0.toNat] = hx0 at hl7
    generalize infT x6 = hi0 at hil
    have q : ∀ k, k ≤ 1000 → k + hi0.length ≤ 9223372036854775807 := fun k hk => by omega
    have hl8 : hx0.length = 2 := by omega
    rcases hs with rfl | rfl <;> cases x3 <;> simp [br, seqT, moreT, bnd1_mk, hl8, q]
  · rw [hw, hx, bnd1_mk]
    generalize hexS [UInt8.ofNat x0.toNat] = hx0 at hl7
    have hl8 : hx0.length = 2 := by omega
    rcases hs with rfl | rfl <;> rcases hc with rfl | rfl | rfl <;> simp [br, seqT, rcT, bnd1_mk, hl8, at?, V.unStr]
  · rw [hw, hx, bnd1_mk, hi]
    generalize hexS [UInt8.ofNat x0.toNat] = hx0 at hl7
    generalize infT x6 = hi0 at hil
    have q : ∀ k, k ≤ 1000 → k + hi0.length ≤ 9223372036854775807 := fun k hk => by omega
    have hl8 : hx0.length = 2 := by omega
    rcases hc with rfl | rfl | rfl | rfl <;> cases x5 <;> simp [br, scT, wayT, bnd1_mk, hl8, at?, V.unStr, q]
end Go.Proofs.Ytomdjcodgkoapaa.En

/- Functions of the program in plain Lean, joined to the program by evaluation; printed by a program. -/
namespace Go.Proofs.Ytomdjcodgkoapaa.En
open Go Go.Proofs
set_option maxRecDepth 100000
set_option linter.unusedVariables false
noncomputable def e_bText {R : Type} (s : Int → Int → Int → Bool → Int → Bool → List UInt8 → Option (List UInt8)) (ds : List D) (K : List D → Option R) : Option R :=
  match ds with
  | [.agg [.v (.int .i64 x0) .no, .v (.int .i64 x1) .no, .v (.int .i64 x2) .no, .v (.bool x3) .no, .v (.int .i64 x4) .no, .v (.bool x5) .no, .v (.bytes x6) .no]] => bnd1 (s x0 x1 x2 x3 x4 x5 x6) fun r0 => K [.v (.str r0) .no]
  | _ => none
theorem go_bText : Goes Try.prog 4 := goes_of Try.func4 (by kernel_rfl) (c := bodyOf Try.f4) (by kernel_rfl)
theorem eo_bText (s : Int → Int → Int → Bool → Int → Bool → List UInt8 → Option (List UInt8)) (hs : ∀ (x0 : Int) (x1 : Int) (x2 : Int) (x3 : Bool) (x4 : Int) (x5 : Bool) (x6 : List UInt8) (r0 : List UInt8), s x0 x1 x2 x3 x4 x5 x6 = some r0 → PureRet Try.prog T 4 [.agg [.v (.int .i64 x0) .no, .v (.int .i64 x1) .no, .v (.int .i64 x2) .no, .v (.bool x3) .no, .v (.int .i64 x4) .no, .v (.bool x5) .no, .v (.bytes x6) .no]] [.v (.str r0) .no]) : EntOK Try.prog T ⟨4, e_bText s⟩ := by
  refine ⟨go_bText, fun R ds K r h => ?_, fun R ds K => ?_⟩
  · simp only [e_bText] at h
    split at h
    · obtain ⟨r0, h1, h2⟩ := bnd1_some h
      exact ⟨_, h2, hs _ _ _ _ _ _ _ _ h1⟩
    · cases h
  · simp only [e_bText]
    split
    · rw [bnd1_b]; rfl
    · rfl
noncomputable def r_wTexts (rs : List D) (_ : Mem) : Option (Bool) :=
  match rs with
  | [.v (.bool r0) _] => some (r0)
  | _ => none
noncomputable def s_wTexts (N : Nat) (x0 : Int) (x1 : Int) (x2 : Int) (x3 : Bool) (x4 : Int) (x5 : Bool) (x6 : List UInt8) (x7 : Int) (x8 : Int) (x9 : Int) (x10 : Bool) (x11 : Int) (x12 : Bool) (x13 : List UInt8) : Option (Bool) :=
  br (decide (300 < (↑x6.length : Int))) (some true)
  (br (decide (300 < (↑x13.length : Int))) (some true)
    (bnd1 (s_bText N x0 x1 x2 x3 x4 x5 x6) fun l0 =>
      bnd1 (s_bText N x7 x8 x9 x10 x11 x12 x13) fun l1 =>
        bnd1 (s_rText N x0 x1 x2 x3 x4 x5 x6) fun l2 =>
          br (!decide (l0 = l2)) (some false)
            (bnd1 (s_rText N x7 x8 x9 x10 x11 x12 x13) fun l3 =>
              br (!decide (l1 = l3)) (some false)
                (br (!decide (l0 = l1)) (bnd1 (s_bawake N) fun b4 => some b4)
                  (br (decide (l0 = [])) (bnd1 (s_bawake N) fun b5 => some b5) (bnd1 (s_rSame6 N x0 x1 x2 x3 x4 x5 x6 x7 x8 x9 x10 x11 x12 x13) fun b6 => br b6 (bnd1 (s_bawake N) fun b7 => some b7) (some false)))))))
noncomputable def cx_wTexts (N : Nat) : Cx := { T := T, isPure := tabP [⟨4, e_bText (s_bText N)⟩, ⟨5, e_rText (s_rText N)⟩, ⟨6, e_rSame6 (s_rSame6 N)⟩, ⟨7, e_bawake (s_bawake N)⟩], pureK := fun g ds K => tabK [⟨4, e_bText (s_bText N)⟩, ⟨5, e_rText (s_rText N)⟩, ⟨6, e_rSame6 (s_rSame6 N)⟩, ⟨7, e_bawake (s_bawake N)⟩] g ds K, memK := fun g dst ds m K => tabMK [] g dst ds m K, meth := tabM [], keep := fun _ => [], keepX := fun _ => [], loopT := fun _ _ _ _ => none, jumps := 9 }
theorem s_wTexts_ok (N : Nat) (x0 : Int) (x1 : Int) (x2 : Int) (x3 : Bool) (x4 : Int) (x5 : Bool) (x6 : List UInt8) (x7 : Int) (x8 : Int) (x9 : Int) (x10 : Bool) (x11 : Int) (x12 : Bool) (x13 : List UInt8) : bodyK (cx_wTexts N) Try.f3 [.agg [.v (.int .i64 x0) .no, .v (.int .i64 x1) .no, .v (.int .i64 x2) .no, .v (.bool x3) .no, .v (.int .i64 x4) .no, .v (.bool x5) .no, .v (.bytes x6) .no], .agg [.v (.int .i64 x7) .no, .v (.int .i64 x8) .no, .v (.int .i64 x9) .no, .v (.bool x10) .no, .v (.int .i64 x11) .no, .v (.bool x12) .no, .v (.bytes x13) .no]] [] r_wTexts = s_wTexts N x0 x1 x2 x3 x4 x5 x6 x7 x8 x9 x10 x11 x12 x13 := by
  kernel_rfl
theorem co_wTexts (N : Nat) : CxOK Try.prog (cx_wTexts N) :=
  cxOK_of2 (es := [⟨4, e_bText (s_bText N)⟩, ⟨5, e_rText (s_rText N)⟩, ⟨6, e_rSame6 (s_rSame6 N)⟩, ⟨7, e_bawake (s_bawake N)⟩]) (me := []) (ms := []) T_ok ⟨eo_bText _ (p_bText N), eo_rText _ (p_rText N), eo_rSame6 _ (p_rSame6 N), eo_bawake _ (p_bawake N), trivial⟩ trivial trivial rfl (fun _ _ _ _ => rfl) (fun _ _ _ _ _ _ => rfl) rfl
theorem lo_wTexts (N : Nat) : LoopsOK (cx_wTexts N) Try.f3.ntmps (bodyOf Try.f3) :=
  loopsOK_of (k := 0) (by kernel_rfl) trivial
theorem p_wTexts (N : Nat) (x0 : Int) (x1 : Int) (x2 : Int) (x3 : Bool) (x4 : Int) (x5 : Bool) (x6 : List UInt8) (x7 : Int) (x8 : Int) (x9 : Int) (x10 : Bool) (x11 : Int) (x12 : Bool) (x13 : List UInt8) (r0 : Bool) (h : s_wTexts N x0 x1 x2 x3 x4 x5 x6 x7 x8 x9 x10 x11 x12 x13 = some r0) : PureRet Try.prog T 3 [.agg [.v (.int .i64 x0) .no, .v (.int .i64 x1) .no, .v (.int .i64 x2) .no, .v (.bool x3) .no, .v (.int .i64 x4) .no, .v (.bool x5) .no, .v (.bytes x6) .no], .agg [.v (.int .i64 x7) .no, .v (.int .i64 x8) .no, .v (.int .i64 x9) .no, .v (.bool x10) .no, .v (.int .i64 x11) .no, .v (.bool x12) .no, .v (.bytes x13) .no]] [.v (.bool r0) .no] :=
  pure_of (cx := cx_wTexts N) (by kernel_rfl) (co_wTexts N) Try.func3 (by kernel_rfl) (by kernel_rfl) (lo_wTexts N) rfl rfl rfl (rf := r_wTexts) ((s_wTexts_ok N x0 x1 x2 x3 x4 x5 x6 x7 x8 x9 x10 x11 x12 x13).trans h) (fun rs' m h => by
    unfold r_wTexts at h
    split at h
    · cases h; exact ⟨rfl, rfl⟩
    · cases h)
end Go.Proofs.Ytomdjcodgkoapaa.En

/- The printed functions, together. -/

/- The law about the texts of two blocks; plain. -/
namespace Go.Proofs.Ytomdjcodgkoapaa.En
open Go Go.RowKit
set_option linter.unusedVariables false
theorem textT_inj {nad kind seq : Int} {more : Bool} {code : Int} {answer : Bool} {inf : List UInt8} {nad' kind' seq' : Int} {more' : Bool} {code' : Int} {answer' : Bool} {inf' : List UInt8}
    (e : textT nad kind seq more code answer inf = textT nad' kind' seq' more' code' answer' inf') (h : textT nad kind seq more code answer inf ≠ []) : sameBl nad kind seq more code answer inf nad' kind' seq' more' code' answer' inf' = true := by
  have h' := h
  rw [e] at h'
  unfold textT at e h h'
  by_cases h1 : checkE nad kind seq more code answer inf = 0
  case neg => rw [if_neg h1] at h; exact absurd rfl h
  by_cases h2 : checkE nad' kind' seq' more' code' answer' inf' = 0
  case neg => rw [if_neg h2] at h'; exact absurd rfl h'
  rw [if_pos h1, if_pos h2] at e
  exact decide_eq_true (lineT_inj h1 h2 e)
theorem wTexts_eq (N : Nat) (hN : 1000 < N) (x0 x1 x2 : Int) (x3 : Bool) (x4 : Int) (x5 : Bool) (x6 : List UInt8) (x7 x8 x9 : Int) (x10 : Bool) (x11 : Int) (x12 : Bool) (x13 : List UInt8) :
    s_wTexts N x0 x1 x2 x3 x4 x5 x6 x7 x8 x9 x10 x11 x12 x13 = some true := by
  unfold s_wTexts
  simp only [rText_eq N hN, s_bText, bnd1_mk, s_bawake, s_rSame6]
  have inj := textT_inj (nad := x0) (kind := x1) (seq := x2) (more := x3) (code := x4) (answer := x5) (inf := x6) (nad' := x7) (kind' := x8) (seq' := x9) (more' := x10) (code' := x11) (answer' := x12) (inf' := x13)
  generalize textT x0 x1 x2 x3 x4 x5 x6 = l0 at *
  generalize textT x7 x8 x9 x10 x11 x12 x13 = l1 at *
  generalize sameBl x0 x1 x2 x3 x4 x5 x6 x7 x8 x9 x10 x11 x12 x13 = b at *
  by_cases e : l0 = l1
  · subst e
    by_cases e2 : l0 = []
    · subst e2; simp [br]
    · rw [inj rfl e2]; simp [br, e2]
  · simp [br, e]
end Go.Proofs.Ytomdjcodgkoapaa.En

/- The engine, part 2s: rows: arguments that came in, what a law's function leaves. -/
namespace Go.Proofs.Ytomdjcodgkoapaa.En
open Go Go.RowKit Go.WideShapes
set_option linter.unusedVariables false
theorem own : ownKnob Try.prog.godebug = none := by kernel_rfl
theorem laidOut : laidOutB Try.prog = true := by kernel_rfl
section
variable {P : Program} {T : TypeId → Option Ty} {f : FuncId} {w : World}
def noEnv : Env := { d := 0, dom := fun _ _ => False }
theorem walk_of {ds : List D} (hp : PureRet P T f ds [.v (.bool true) .no]) {us : List Value} (hr : RepDs noEnv (immG T) w [] ds us) :
    Calls P f us.toArray w fun e w' => e = .returned (.bool true) ∧ Below w.heap.size w w' := by
  refine (hp noEnv (immG T) w us rfl hr).mono ?_
  rintro e w' ⟨us', g', rfl, h1, h2⟩
  obtain ⟨l, hr'⟩ := h1 noEnv
  match us', l with
  | [u], _ =>
  have := hr' 0 _ rfl
  simp only [List.getD_cons_zero] at this
  cases this with
  | v x a v h ha =>
  cases h
  exact ⟨rfl, ⟨h2.grows.os, h2.grows.tape, h2.grows.output, h2.grows.size, h2.grows.old⟩⟩
theorem reps_nil : RepDs noEnv (immG T) w [] [] [] := ⟨rfl, fun k y h => by simp at h⟩
theorem reps_cons {d : D} {u : Value} {ds : List D} {us : List Value} (h : RepD noEnv (immG T) w [] d u) (hs : RepDs noEnv (immG T) w [] ds us) : RepDs noEnv (immG T) w [] (d :: ds) (u :: us) :=
  ⟨by simp [hs.1], fun k y hk => by
    rcases k with _ | k
    · simp at hk; subst hk; exact h
    · simpa using hs.2 k y (by simpa using hk)⟩
theorem rep_agg {cs : List V} {u : Value} (h : RepV (immG T) w (.agg cs) u) : RepD noEnv (immG T) w [] (.agg (cs.map vD)) u := by
  cases h with
  | agg cs us hn hr =>
    refine .agg _ us (by simpa using hn) fun k y hk => ?_
    rw [List.getElem?_map, Option.map_eq_some_iff] at hk
    obtain ⟨z, hz, rfl⟩ := hk
    exact .v _ _ _ (hr k z hz) trivial
variable {H : Type} {enc : TypeId × Value → H} {base : Nat} {spare : Nat → Bool} {held : Bool} {r : Reach} {b0 : Nat} {t : TypeId} {v : Value} {d : DataW H} {ps : List MemPlace} {l : List TypeId}
theorem row_of (hT : TypesOK P T) {desc : TypeDesc} (ht : P.underlying t = some desc) {ty : Ty} (h : T t = some ty) : ty.desc = desc := by
  have := (hT t ty h).desc
  rw [ht] at this
  injection this with this
  exact this.symm
theorem arg_struct (hT : TypesOK P T) (hl : closedT T l = true) (hm : t ∈ l) {fs : Array Field} (ht : P.underlying t = some (.struct fs)) (hv : Value.okWide P w r b0 t v) (hd : DataW.Trod enc P w base spare held t v d ps) :
    ∃ n cs, Fits T n t cs ∧ RepV (immG T) w (.agg cs) v := by
  obtain ⟨cs, rfl, _⟩ := okWide_struct ht hv
  obtain ⟨n, x, h1, h2, h3⟩ := arg_rep hT hl hm (fun ty hty => ⟨fun _ => ⟨cs, rfl⟩, fun hr => (by rw [Ty.row, row_of hT ht hty] at hr; cases hr)⟩) hd
  cases h2 with
  | agg ys us a b => exact ⟨n, ys, h1, .agg ys _ a b⟩
/-- What fits a type of one cell. -/
theorem fits_int {k : IntKind} {ty : Ty} (h : T t = some ty) (hd : ty.desc = .int k) {n : Nat} {xs : List V} (hf : Fits T n t xs) : ∃ i, xs = [.int k i] ∧ k.min ≤ i ∧ i ≤ k.max := by
  cases n with
  | zero => cases hf
  | succ n => unfold Fits at hf; rw [h] at hf; simp only [hd] at hf; exact hf
theorem fits_bool {ty : Ty} (h : T t = some ty) (hd : ty.desc = .bool) {n : Nat} {xs : List V} (hf : Fits T n t xs) : ∃ b, xs = [.bool b] := by
  cases n with
  | zero => cases hf
  | succ n => unfold Fits at hf; rw [h] at hf; simp only [hd] at hf; exact hf
theorem fits_bytes {e e' : TypeId} {ty : Ty} (h : T t = some ty) (hd : ty.desc = .slice e) (hc : ty.cks = [.bytes e']) {n : Nat} {xs : List V} (hf : Fits T n t xs) : ∃ s, xs = [.bytes s] ∧ s.length ≤ maxLen := by
  cases n with
  | zero => cases hf
  | succ n => unfold Fits at hf; rw [h] at hf; simp only [hd, hc] at hf; exact hf
theorem fits_struct {fs : Array Field} {ty : Ty} (h : T t = some ty) (hd : ty.desc = .struct fs) {n : Nat} {xs : List V} (hf : Fits T n t xs) : ∃ m, n = m + 1 ∧ FitsFs (Fits T m) fs.toList xs := by
  cases n with
  | zero => cases hf
  | succ n => unfold Fits at hf; rw [h] at hf; simp only [hd] at hf; exact ⟨n, rfl, hf⟩
end
end Go.Proofs.Ytomdjcodgkoapaa.En

/- What two blocks read as. -/
namespace Go.Proofs.Ytomdjcodgkoapaa.En
open Go Go.RowKit
set_option linter.unusedVariables false
theorem T_int : T 3 = some ty3 := by kernel_rfl
theorem T_bool : T 4 = some ty4 := by kernel_rfl
theorem T_bytes : T 22 = some ty22 := by kernel_rfl
theorem T_blk : T 24 = some ty24 := by kernel_rfl
theorem blk_arg {n : Nat} {cs : List V} (h : Fits T n 24 cs) : ∃ (nad kind seq : Int) (more : Bool) (code : Int) (answer : Bool) (inf : List UInt8), cs = [.int .i64 nad, .int .i64 kind, .int .i64 seq, .bool more, .int .i64 code, .bool answer, .bytes inf] := by
  obtain ⟨m, rfl, a1, r1, rfl, h1, a2, r2, rfl, h2, a3, r3, rfl, h3, a4, r4, rfl, h4, a5, r5, rfl, h5, a6, r6, rfl, h6, a7, r7, rfl, h7, rfl⟩ := fits_struct T_blk rfl h
  obtain ⟨v1, rfl, _⟩ := fits_int T_int rfl h1
  obtain ⟨v2, rfl, _⟩ := fits_int T_int rfl h2
  obtain ⟨v3, rfl, _⟩ := fits_int T_int rfl h3
  obtain ⟨v4, rfl⟩ := fits_bool T_bool rfl h4
  obtain ⟨v5, rfl, _⟩ := fits_int T_int rfl h5
  obtain ⟨v6, rfl⟩ := fits_bool T_bool rfl h6
  obtain ⟨v7, rfl, _⟩ := fits_bytes T_bytes rfl rfl h7
  exact ⟨v1, v2, v3, v4, v5, v6, v7, rfl⟩
/-- The types that the arguments lead to. -/
def argTys : List TypeId := [24, 3, 4, 22, 5]
theorem argTys_ok : closedT T argTys = true := by kernel_rfl
end Go.Proofs.Ytomdjcodgkoapaa.En
