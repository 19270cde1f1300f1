/- Several texts in one. -/
import Derived.Test.YtilfphdeacogmaaV5
import Derived.Test.YtilfphdeacogmaaV4
import Derived.Test.YtilfphdeacogmaaV2
import Derived.Test.YtilfphdeacogmaaV1
import Derived.ProofKit
import Derived.OpenShut
import Derived.ChangeOld
import Derived.Below
import Derived.Test.YtilfphdeacogmaaRows
import Derived.ShutString
import Derived.Lib.SmallJoins

set_option linter.unusedSimpArgs false
set_option linter.unusedVariables false
set_option linter.unusedSectionVars false
/- Functions of the program in plain Lean, joined to the program by evaluation; printed by a program. -/
namespace Go.Proofs.Ytilfphdeacogmaa.En
open Go Go.Proofs
set_option maxRecDepth 100000
set_option maxHeartbeats 8000000
set_option linter.unusedVariables false
abbrev Ty38 := Int -> Int -> Int -> Int -> Int -> Bool -> Int -> Int -> Int -> Bool -> Int -> Bool -> List UInt8 -> List V -> List UInt8 -> List UInt8 -> Option (Int × Int × Int × Int × Int × Bool × Int × Int × Int × Bool × Int × Bool × List UInt8 × List V × List UInt8 × List UInt8)
noncomputable def e_rsend {R : Type} (s : Ty38) (ds : List D) (K : List D -> Option R) : Option R :=
  match ds with
  | [.agg [.v (.int .i64 x0) .no, .v (.int .i64 x1) .no, .v (.int .i64 x2) .no, .v (.int .i64 x3) .no, .v (.int .i64 x4) .no, .v (.bool x5) .no, .v (.int .i64 x6) .no, .v (.int .i64 x7) .no, .v (.int .i64 x8) .no, .v (.bool x9) .no, .v (.int .i64 x10) .no, .v (.bool x11) .no, .v (.bytes x12) .no, .v (.sl 27 x13) .no, .v (.bytes x14) .no], .v (.bytes x15) .no] => bnd16 (s x0 x1 x2 x3 x4 x5 x6 x7 x8 x9 x10 x11 x12 x13 x14 x15) fun r0 r1 r2 r3 r4 r5 r6 r7 r8 r9 r10 r11 r12 r13 r14 r15 => K [.agg [dI r0, dI r1, dI r2, dI r3, dI r4, dB r5, dI r6, dI r7, dI r8, dB r9, dI r10, dB r11, dY r12, .v (.sl 27 r13) .no, dY r14], dY r15]
  | _ => none
noncomputable def F_rsend_2 {R : Type} (N : Nat) (n2 n3 n4 n5 n6 : Int) (b7 : Bool) (n8 n9 n10 : Int) (b11 : Bool) (n12 : Int) (b13 : Bool) (l14 : List UInt8) (vs15 : List V) (l16 : List UInt8) (n17 n18 n19 n20 n21 : Int) (b22 : Bool) (n23 n24 n25 : Int) (b26 : Bool) (n27 : Int) (b28 : Bool) (l29 : List UInt8) (vs30 : List V) (l31 : List UInt8) (Lq : List UInt8 -> List V -> Option R) (K0 : List UInt8 -> List V -> Option R) (l0 : List UInt8) (vs1 : List V) : Option R := br (decide (n4 < (l0.length : Int))) (br (decide (0 <= n4) && decide (n4 <= (l0.length : Int))) (br (decide ((vs1.length + [V.bytes (List.take n4.toNat l0)].length) * 24 <= 140737488355328)) (br (decide (0 <= n4) && decide (n4 <= (l0.length : Int))) (Lq (List.drop n4.toNat l0) (vs1 ++ [V.bytes (List.take n4.toNat l0)])) none) none) none) (K0 l0 vs1)
noncomputable def S_rsend_2 {R : Type} (N : Nat) (n2 n3 n4 n5 n6 : Int) (b7 : Bool) (n8 n9 n10 : Int) (b11 : Bool) (n12 : Int) (b13 : Bool) (l14 : List UInt8) (vs15 : List V) (l16 : List UInt8) (n17 n18 n19 n20 n21 : Int) (b22 : Bool) (n23 n24 n25 : Int) (b26 : Bool) (n27 : Int) (b28 : Bool) (l29 : List UInt8) (vs30 : List V) (l31 : List UInt8) : Nat -> List UInt8 -> List V -> (List UInt8 -> List V -> Option R) -> Option R | 0, _, _, _ => none | t + 1, l0, vs1, K0 => F_rsend_2 N n2 n3 n4 n5 n6 b7 n8 n9 n10 b11 n12 b13 l14 vs15 l16 n17 n18 n19 n20 n21 b22 n23 n24 n25 b26 n27 b28 l29 vs30 l31 (fun l0 vs1 => S_rsend_2 N n2 n3 n4 n5 n6 b7 n8 n9 n10 b11 n12 b13 l14 vs15 l16 n17 n18 n19 n20 n21 b22 n23 n24 n25 b26 n27 b28 l29 vs30 l31 t l0 vs1 K0) K0 l0 vs1
noncomputable def l_rsend_2 {R : Type} (N : Nat) (ds : List D) (m : Mem) (K : Ex -> List D -> Mem -> Option R) : Option R :=
  match ds, m with
  | [(.v (.bytes l0) .no), (.ptr 0 2 0), (.ptr 0 4 0), (.v (.sl 27 vs1) (.own (.slot 6) 27))], [[(2, ⟨32, [(.v (.int .i64 n2) .no), (.v (.int .i64 n3) .no), (.v (.int .i64 n4) .no), (.v (.int .i64 n5) .no), (.v (.int .i64 n6) .no), (.v (.bool b7) .no), (.v (.int .i64 n8) .no), (.v (.int .i64 n9) .no), (.v (.int .i64 n10) .no), (.v (.bool b11) .no), (.v (.int .i64 n12) .no), (.v (.bool b13) .no), (.v (.bytes l14) .no), (.v (.sl 27 vs15) .no), (.v (.bytes l16) .no)]⟩), (4, ⟨32, [(.v (.int .i64 n17) .no), (.v (.int .i64 n18) .no), (.v (.int .i64 n19) .no), (.v (.int .i64 n20) .no), (.v (.int .i64 n21) .no), (.v (.bool b22) .no), (.v (.int .i64 n23) .no), (.v (.int .i64 n24) .no), (.v (.int .i64 n25) .no), (.v (.bool b26) .no), (.v (.int .i64 n27) .no), (.v (.bool b28) .no), (.v (.bytes l29) (.own (.slot 0) 5)), (.v (.sl 27 vs30) (.own (.slot 0) 27)), (.v (.bytes l31) (.own (.slot 0) 5))]⟩)]] => S_rsend_2 N n2 n3 n4 n5 n6 b7 n8 n9 n10 b11 n12 b13 l14 vs15 l16 n17 n18 n19 n20 n21 b22 n23 n24 n25 b26 n27 b28 l29 vs30 l31 N l0 vs1 (fun a0 a1 => K (.exit 0) [(.v (.bytes a0) .no), (.ptr 0 2 0), (.ptr 0 4 0), (.v (.sl 27 a1) (.own (.slot 6) 27))] [[(2, ⟨32, [(.v (.int .i64 n2) .no), (.v (.int .i64 n3) .no), (.v (.int .i64 n4) .no), (.v (.int .i64 n5) .no), (.v (.int .i64 n6) .no), (.v (.bool b7) .no), (.v (.int .i64 n8) .no), (.v (.int .i64 n9) .no), (.v (.int .i64 n10) .no), (.v (.bool b11) .no), (.v (.int .i64 n12) .no), (.v (.bool b13) .no), (.v (.bytes l14) .no), (.v (.sl 27 vs15) .no), (.v (.bytes l16) .no)]⟩), (4, ⟨32, [(.v (.int .i64 n17) .no), (.v (.int .i64 n18) .no), (.v (.int .i64 n19) .no), (.v (.int .i64 n20) .no), (.v (.int .i64 n21) .no), (.v (.bool b22) .no), (.v (.int .i64 n23) .no), (.v (.int .i64 n24) .no), (.v (.int .i64 n25) .no), (.v (.bool b26) .no), (.v (.int .i64 n27) .no), (.v (.bool b28) .no), (.v (.bytes l29) (.own (.slot 0) 5)), (.v (.sl 27 vs30) (.own (.slot 0) 27)), (.v (.bytes l31) (.own (.slot 0) 5))]⟩)]])
  | _, _ => none
noncomputable def s_rsend (N : Nat) (x0 x1 x2 x3 x4 : Int) (x5 : Bool) (x6 x7 x8 : Int) (x9 : Bool) (x10 : Int) (x11 : Bool) (x12 : List UInt8) (x13 : List V) (x14 x15 : List UInt8) : Option (Int × Int × Int × Int × Int × Bool × Int × Int × Int × Bool × Int × Bool × List UInt8 × List V × List UInt8 × List UInt8) := S_rsend_2 N x0 x1 x2 x3 x4 x5 x6 x7 x8 x9 x10 x11 x12 x13 x14 0 0 0 0 0 false 0 0 0 false 0 false [] [] [] N x15 [] fun l0 l1 => br (decide ((l1.length + [V.bytes l0].length) * 24 <= 140737488355328)) (bnd16 (s_rpiece N x0 x1 x2 x3 x4 x5 x6 x7 x8 x9 x10 x11 x12 (l1 ++ [V.bytes l0]) x14) fun n2 n3 n4 n5 n6 b7 n8 n9 n10 b11 n12 b13 l14 l15 l16 l17 => some (n2, n3, n4, n5, n6, b7, n8, n9, n10, b11, n12, b13, l14, l15, l16, l17)) none
noncomputable def cx_rsend (N : Nat) : Cx := { T := T, isPure := tabP [⟨56, e_rpiece (s_rpiece N)⟩], pureK := fun g ds K => tabK [⟨56, e_rpiece (s_rpiece N)⟩] g ds K, memK := fun g dst ds m K => tabMK [] g dst ds m K, meth := tabM [], keep := fun r => match r with | 2 => [1, 2, 4, 6] | _ => [], keepX := fun r => match r with | 2 => [1, 2, 4, 6] | _ => [], loopT := fun r ds m K => match r with | 2 => l_rsend_2 N ds m K | _ => none, jumps := 9 }
theorem F_rsend_2_ok {R : Type} (N : Nat) (n2 n3 n4 n5 n6 : Int) (b7 : Bool) (n8 n9 n10 : Int) (b11 : Bool) (n12 : Int) (b13 : Bool) (l14 : List UInt8) (vs15 : List V) (l16 : List UInt8) (n17 n18 n19 n20 n21 : Int) (b22 : Bool) (n23 n24 n25 : Int) (b26 : Bool) (n27 : Int) (b28 : Bool) (l29 : List UInt8) (vs30 : List V) (l31 l0 : List UInt8) (vs1 : List V) (L : List D -> Mem -> Option R) (K : Ex -> List D -> Mem -> Option R) :
    roundK (fun st K => codeK (cx_rsend N) (loopN Try.f59 0) st K) 32 [1, 2, 4, 6] [1, 2, 4, 6] L [(dY l0), (.ptr 0 2 0), (.ptr 0 4 0), (.v (.sl 27 vs1) (.own (.slot 6) 27))] [[(2, ⟨32, [(dI n2), (dI n3), (dI n4), (dI n5), (dI n6), (dB b7), (dI n8), (dI n9), (dI n10), (dB b11), (dI n12), (dB b13), (dY l14), (.v (.sl 27 vs15) .no), (dY l16)]⟩), (4, ⟨32, [(dI n17), (dI n18), (dI n19), (dI n20), (dI n21), (dB b22), (dI n23), (dI n24), (dI n25), (dB b26), (dI n27), (dB b28), (.v (.bytes l29) (.own (.slot 0) 5)), (.v (.sl 27 vs30) (.own (.slot 0) 27)), (.v (.bytes l31) (.own (.slot 0) 5))]⟩)]] K = F_rsend_2 N n2 n3 n4 n5 n6 b7 n8 n9 n10 b11 n12 b13 l14 vs15 l16 n17 n18 n19 n20 n21 b22 n23 n24 n25 b26 n27 b28 l29 vs30 l31 (fun l0 vs1 => L [(dY l0), (.ptr 0 2 0), (.ptr 0 4 0), (.v (.sl 27 vs1) (.own (.slot 6) 27))] [[(2, ⟨32, [(dI n2), (dI n3), (dI n4), (dI n5), (dI n6), (dB b7), (dI n8), (dI n9), (dI n10), (dB b11), (dI n12), (dB b13), (dY l14), (.v (.sl 27 vs15) .no), (dY l16)]⟩), (4, ⟨32, [(dI n17), (dI n18), (dI n19), (dI n20), (dI n21), (dB b22), (dI n23), (dI n24), (dI n25), (dB b26), (dI n27), (dB b28), (.v (.bytes l29) (.own (.slot 0) 5)), (.v (.sl 27 vs30) (.own (.slot 0) 27)), (.v (.bytes l31) (.own (.slot 0) 5))]⟩)]]) (fun a0 a1 => K (.exit 0) [(dY a0), (.ptr 0 2 0), (.ptr 0 4 0), (.v (.sl 27 a1) (.own (.slot 6) 27))] [[(2, ⟨32, [(dI n2), (dI n3), (dI n4), (dI n5), (dI n6), (dB b7), (dI n8), (dI n9), (dI n10), (dB b11), (dI n12), (dB b13), (dY l14), (.v (.sl 27 vs15) .no), (dY l16)]⟩), (4, ⟨32, [(dI n17), (dI n18), (dI n19), (dI n20), (dI n21), (dB b22), (dI n23), (dI n24), (dI n25), (dB b26), (dI n27), (dB b28), (.v (.bytes l29) (.own (.slot 0) 5)), (.v (.sl 27 vs30) (.own (.slot 0) 27)), (.v (.bytes l31) (.own (.slot 0) 5))]⟩)]]) l0 vs1 := by
  kernel_rfl
theorem S_rsend_2_ok {R : Type} (N : Nat) (n2 n3 n4 n5 n6 : Int) (b7 : Bool) (n8 n9 n10 : Int) (b11 : Bool) (n12 : Int) (b13 : Bool) (l14 : List UInt8) (vs15 : List V) (l16 : List UInt8) (n17 n18 n19 n20 n21 : Int) (b22 : Bool) (n23 n24 n25 : Int) (b26 : Bool) (n27 : Int) (b28 : Bool) (l29 : List UInt8) (vs30 : List V) (l31 : List UInt8) (K : Ex -> List D -> Mem -> Option R) : ∀ (t : Nat) (l0 : List UInt8) (vs1 : List V),
    loopK (fun st K => codeK (cx_rsend N) (loopN Try.f59 0) st K) 32 [1, 2, 4, 6] [1, 2, 4, 6] t [(dY l0), (.ptr 0 2 0), (.ptr 0 4 0), (.v (.sl 27 vs1) (.own (.slot 6) 27))] [[(2, ⟨32, [(dI n2), (dI n3), (dI n4), (dI n5), (dI n6), (dB b7), (dI n8), (dI n9), (dI n10), (dB b11), (dI n12), (dB b13), (dY l14), (.v (.sl 27 vs15) .no), (dY l16)]⟩), (4, ⟨32, [(dI n17), (dI n18), (dI n19), (dI n20), (dI n21), (dB b22), (dI n23), (dI n24), (dI n25), (dB b26), (dI n27), (dB b28), (.v (.bytes l29) (.own (.slot 0) 5)), (.v (.sl 27 vs30) (.own (.slot 0) 27)), (.v (.bytes l31) (.own (.slot 0) 5))]⟩)]] K = S_rsend_2 N n2 n3 n4 n5 n6 b7 n8 n9 n10 b11 n12 b13 l14 vs15 l16 n17 n18 n19 n20 n21 b22 n23 n24 n25 b26 n27 b28 l29 vs30 l31 t l0 vs1 (fun a0 a1 => K (.exit 0) [(dY a0), (.ptr 0 2 0), (.ptr 0 4 0), (.v (.sl 27 a1) (.own (.slot 6) 27))] [[(2, ⟨32, [(dI n2), (dI n3), (dI n4), (dI n5), (dI n6), (dB b7), (dI n8), (dI n9), (dI n10), (dB b11), (dI n12), (dB b13), (dY l14), (.v (.sl 27 vs15) .no), (dY l16)]⟩), (4, ⟨32, [(dI n17), (dI n18), (dI n19), (dI n20), (dI n21), (dB b22), (dI n23), (dI n24), (dI n25), (dB b26), (dI n27), (dB b28), (.v (.bytes l29) (.own (.slot 0) 5)), (.v (.sl 27 vs30) (.own (.slot 0) 27)), (.v (.bytes l31) (.own (.slot 0) 5))]⟩)]])
  | 0, l0, vs1 => rfl
  | t + 1, l0, vs1 => (F_rsend_2_ok N n2 n3 n4 n5 n6 b7 n8 n9 n10 b11 n12 b13 l14 vs15 l16 n17 n18 n19 n20 n21 b22 n23 n24 n25 b26 n27 b28 l29 vs30 l31 l0 vs1 _ K).trans (congrArg (fun L => F_rsend_2 N n2 n3 n4 n5 n6 b7 n8 n9 n10 b11 n12 b13 l14 vs15 l16 n17 n18 n19 n20 n21 b22 n23 n24 n25 b26 n27 b28 l29 vs30 l31 L (fun a0 a1 => K (.exit 0) [(dY a0), (.ptr 0 2 0), (.ptr 0 4 0), (.v (.sl 27 a1) (.own (.slot 6) 27))] [[(2, ⟨32, [(dI n2), (dI n3), (dI n4), (dI n5), (dI n6), (dB b7), (dI n8), (dI n9), (dI n10), (dB b11), (dI n12), (dB b13), (dY l14), (.v (.sl 27 vs15) .no), (dY l16)]⟩), (4, ⟨32, [(dI n17), (dI n18), (dI n19), (dI n20), (dI n21), (dB b22), (dI n23), (dI n24), (dI n25), (dB b26), (dI n27), (dB b28), (.v (.bytes l29) (.own (.slot 0) 5)), (.v (.sl 27 vs30) (.own (.slot 0) 27)), (.v (.bytes l31) (.own (.slot 0) 5))]⟩)]]) l0 vs1) (funext fun l0 => funext fun vs1 => S_rsend_2_ok N n2 n3 n4 n5 n6 b7 n8 n9 n10 b11 n12 b13 l14 vs15 l16 n17 n18 n19 n20 n21 b22 n23 n24 n25 b26 n27 b28 l29 vs30 l31 K t l0 vs1))
theorem s_rsend_ok (N : Nat) (x0 x1 x2 x3 x4 x5 x6 x7 x8 x9 x10 x11 x12 x13 x14 x15 : _) : bodyK (cx_rsend N) Try.f59 [g4a x0 x1 x2 x3 x4 x5 x6 x7 x8 x9 x10 x11 x12 x13 x14, dY x15] [] r_rpiece = s_rsend N x0 x1 x2 x3 x4 x5 x6 x7 x8 x9 x10 x11 x12 x13 x14 x15 := by
  kernel_rfl
abbrev Q_rsend (s : Ty38) : Prop := ∀ x0 x1 x2 x3 x4 x5 x6 x7 x8 x9 x10 x11 x12 x13 x14 x15 r0 r1 r2 r3 r4 r5 r6 r7 r8 r9 r10 r11 r12 r13 r14 r15, s x0 x1 x2 x3 x4 x5 x6 x7 x8 x9 x10 x11 x12 x13 x14 x15 = some (r0, r1, r2, r3, r4, r5, r6, r7, r8, r9, r10, r11, r12, r13, r14, r15) -> PureRet Try.prog T 59 [g4a x0 x1 x2 x3 x4 x5 x6 x7 x8 x9 x10 x11 x12 x13 x14, dY x15] [g4a r0 r1 r2 r3 r4 r5 r6 r7 r8 r9 r10 r11 r12 r13 r14, dY r15]
theorem eo_rsend (s : Ty38) (hs : Q_rsend s) : EntOK Try.prog T ⟨59, e_rsend s⟩ := by
  refine ⟨goes_of Try.func59 (by kernel_rfl) (c := bodyOf Try.f59) (by kernel_rfl), fun R ds K r h => ?_, fun R ds K => ?_⟩
  . simp only [e_rsend] at h
    split at h
    . obtain ⟨r0, r1, r2, r3, r4, r5, r6, r7, r8, r9, r10, r11, r12, r13, r14, r15, h1, h2⟩ := bnd16_some h
      exact ⟨_, h2, hs _ _ _ _ _ _ _ _ _ _ _ _ _ _ _ _ _ _ _ _ _ _ _ _ _ _ _ _ _ _ _ _ h1⟩
    . cases h
  . simp only [e_rsend]
    split
    . rw [bnd16_b]; rfl
    . rfl
theorem co_rsend (N : Nat) : CxOK Try.prog (cx_rsend N) :=
  cxOK_of2 (es := [⟨56, e_rpiece (s_rpiece N)⟩]) (me := []) (ms := []) T_ok ⟨eo_rpiece _ (p_rpiece N), trivial⟩ trivial trivial rfl (fun _ _ _ _ => rfl) (fun _ _ _ _ _ _ => rfl) rfl
theorem lk_rsend_2 (N : Nat) : LoopOK (cx_rsend N) 32 (loopN Try.f59 0) := by
  refine loopOK_of (rid := 2) (by kernel_rfl) rfl rfl fun R ds m K r h => ?_
  have h : l_rsend_2 N ds m K = some r := h
  unfold l_rsend_2 at h
  split at h
  . exact ⟨N, Eq.trans (S_rsend_2_ok ..) h⟩
  . cases h
theorem lo_rsend (N : Nat) : LoopsOK (cx_rsend N) Try.f59.ntmps (bodyOf Try.f59) :=
  loopsOK_of (k := 1) (by kernel_rfl) ⟨trivial, lk_rsend_2 N⟩
theorem p_rsend (N : Nat) : Q_rsend (s_rsend N) := fun x0 x1 x2 x3 x4 x5 x6 x7 x8 x9 x10 x11 x12 x13 x14 x15 r0 r1 r2 r3 r4 r5 r6 r7 r8 r9 r10 r11 r12 r13 r14 r15 h => pure_of (cx := cx_rsend N) (by kernel_rfl) (co_rsend N) Try.func59 (by kernel_rfl) (by kernel_rfl) (lo_rsend N) (by rfl) (by rfl) (by rfl) (rf := r_rpiece) ((s_rsend_ok ..).trans h) (fun rs' m h => by
    unfold r_rpiece at h
    split at h
    . cases h; exact ⟨rfl, rfl⟩
    . cases h)
abbrev Ty39 := Int -> Int -> Int -> Int -> Int -> Bool -> Int -> Int -> Int -> Bool -> Int -> Bool -> List UInt8 -> List V -> List UInt8 -> List UInt8 -> Option (Int × Int × Int × Bool × Int × Bool × List UInt8 × Int × Bool)
noncomputable def e_rblock {R : Type} (s : Ty39) (ds : List D) (K : List D -> Option R) : Option R :=
  match ds with
  | [.agg [.v (.int .i64 x0) .no, .v (.int .i64 x1) .no, .v (.int .i64 x2) .no, .v (.int .i64 x3) .no, .v (.int .i64 x4) .no, .v (.bool x5) .no, .v (.int .i64 x6) .no, .v (.int .i64 x7) .no, .v (.int .i64 x8) .no, .v (.bool x9) .no, .v (.int .i64 x10) .no, .v (.bool x11) .no, .v (.bytes x12) .no, .v (.sl 27 x13) .no, .v (.bytes x14) .no], .v (.bytes x15) .no] => bnd9 (s x0 x1 x2 x3 x4 x5 x6 x7 x8 x9 x10 x11 x12 x13 x14 x15) fun r0 r1 r2 r3 r4 r5 r6 r7 r8 => K [.agg [dI r0, dI r1, dI r2, dB r3, dI r4, dB r5, dY r6], dI r7, dB r8]
  | _ => none
noncomputable def r_rblock (rs : List D) (_ : Mem) : Option (Int × Int × Int × Bool × Int × Bool × List UInt8 × Int × Bool) :=
  match rs with
  | [.agg [.v (.int .i64 r0) _, .v (.int .i64 r1) _, .v (.int .i64 r2) _, .v (.bool r3) _, .v (.int .i64 r4) _, .v (.bool r5) _, .v (.bytes r6) _], .v (.int .i64 r7) _, .v (.bool r8) _] => some (r0, r1, r2, r3, r4, r5, r6, r7, r8)
  | _ => none
noncomputable def s_rblock (N : Nat) (x0 x1 x2 x3 x4 : Int) (x5 : Bool) (x6 x7 x8 : Int) (x9 : Bool) (x10 : Int) (x11 : Bool) (x12 : List UInt8) (x13 : List V) (x14 x15 : List UInt8) : Option (Int × Int × Int × Bool × Int × Bool × List UInt8 × Int × Bool) := bnd8 (s_rDecode6 N x15 x0) fun n0 n1 n2 b3 n4 b5 l6 n7 => br (decide (n7 = 6)) (some (n0, n1, n2, b3, n4, b5, l6, 1, false)) (br (!decide (n7 = 0)) (some (n0, n1, n2, b3, n4, b5, l6, 2, false)) (br (!decide (n0 = 0)) (some (n0, n1, n2, b3, n4, b5, l6, 2, false)) (br (decide (n1 = 0)) (br (decide (x1 < (l6.length : Int))) (some (n0, n1, n2, b3, n4, b5, l6, 2, false)) (some (n0, n1, n2, b3, n4, b5, l6, 0, true))) (some (n0, n1, n2, b3, n4, b5, l6, 0, true)))))
noncomputable def cx_rblock (N : Nat) : Cx := cxO [⟨61, e_rDecode6 (s_rDecode6 N)⟩] []
theorem s_rblock_ok (N : Nat) (x0 x1 x2 x3 x4 x5 x6 x7 x8 x9 x10 x11 x12 x13 x14 x15 : _) : bodyK (cx_rblock N) Try.f51 [g4a x0 x1 x2 x3 x4 x5 x6 x7 x8 x9 x10 x11 x12 x13 x14, dY x15] [] r_rblock = s_rblock N x0 x1 x2 x3 x4 x5 x6 x7 x8 x9 x10 x11 x12 x13 x14 x15 := by
  kernel_rfl
abbrev Q_rblock (s : Ty39) : Prop := ∀ x0 x1 x2 x3 x4 x5 x6 x7 x8 x9 x10 x11 x12 x13 x14 x15 r0 r1 r2 r3 r4 r5 r6 r7 r8, s x0 x1 x2 x3 x4 x5 x6 x7 x8 x9 x10 x11 x12 x13 x14 x15 = some (r0, r1, r2, r3, r4, r5, r6, r7, r8) -> PureRet Try.prog T 51 [g4a x0 x1 x2 x3 x4 x5 x6 x7 x8 x9 x10 x11 x12 x13 x14, dY x15] [g0a r0 r1 r2 r3 r4 r5 r6, dI r7, dB r8]
theorem eo_rblock (s : Ty39) (hs : Q_rblock s) : EntOK Try.prog T ⟨51, e_rblock s⟩ := by
  refine ⟨goes_of Try.func51 (by kernel_rfl) (c := bodyOf Try.f51) (by kernel_rfl), fun R ds K r h => ?_, fun R ds K => ?_⟩
  . simp only [e_rblock] at h
    split at h
    . obtain ⟨r0, r1, r2, r3, r4, r5, r6, r7, r8, h1, h2⟩ := bnd9_some h
      exact ⟨_, h2, hs _ _ _ _ _ _ _ _ _ _ _ _ _ _ _ _ _ _ _ _ _ _ _ _ _ h1⟩
    . cases h
  . simp only [e_rblock]
    split
    . rw [bnd9_b]; rfl
    . rfl
theorem p_rblock (N : Nat) : Q_rblock (s_rblock N) := fun x0 x1 x2 x3 x4 x5 x6 x7 x8 x9 x10 x11 x12 x13 x14 x15 r0 r1 r2 r3 r4 r5 r6 r7 r8 h => pure_of (cx := cx_rblock N) (by kernel_rfl) (cxO_ok ⟨eo_rDecode6 _ (p_rDecode6 N), trivial⟩ trivial) Try.func51 (by kernel_rfl) (by kernel_rfl) (loopsOK_of (k := 0) (by kernel_rfl) trivial) (by rfl) (by rfl) (by rfl) (rf := r_rblock) ((s_rblock_ok ..).trans h) (fun rs' m h => by
    unfold r_rblock at h
    split at h
    . cases h; exact ⟨rfl, rfl⟩
    . cases h)
noncomputable def e_rmore {R : Type} (s : List UInt8 -> List UInt8 -> Option (List UInt8)) (ds : List D) (K : List D -> Option R) : Option R :=
  match ds with
  | [.v (.bytes x0) .no, .v (.bytes x1) .no] => bnd1 (s x0 x1) fun r0 => K [dY r0]
  | _ => none
noncomputable def s_rmore (N : Nat) (x0 x1 : List UInt8) : Option (List UInt8) := br (decide ((0 + x0.length) * 1 <= 140737488355328)) (br (decide ((([] ++ x0).length + x1.length) * 1 <= 140737488355328)) (some ([] ++ x0 ++ x1)) none) none
noncomputable def cx_rmore (N : Nat) : Cx := cxO [] []
theorem s_rmore_ok (N : Nat) (x0 x1 : _) : bodyK (cx_rmore N) Try.f84 [dY x0, dY x1] [] r_rput = s_rmore N x0 x1 := by
  kernel_rfl
abbrev Q_rmore (s : List UInt8 -> List UInt8 -> Option (List UInt8)) : Prop := ∀ x0 x1 r0, s x0 x1 = some r0 -> PureRet Try.prog T 84 [dY x0, dY x1] [dY r0]
theorem eo_rmore (s : List UInt8 -> List UInt8 -> Option (List UInt8)) (hs : Q_rmore s) : EntOK Try.prog T ⟨84, e_rmore s⟩ := by
  refine ⟨goes_of Try.func84 (by kernel_rfl) (c := bodyOf Try.f84) (by kernel_rfl), fun R ds K r h => ?_, fun R ds K => ?_⟩
  . simp only [e_rmore] at h
    split at h
    . obtain ⟨r0, h1, h2⟩ := bnd1_some h
      exact ⟨_, h2, hs _ _ _ h1⟩
    . cases h
  . simp only [e_rmore]
    split
    . rw [bnd1_b]; rfl
    . rfl
theorem p_rmore (N : Nat) : Q_rmore (s_rmore N) := fun x0 x1 r0 h => pure_of (cx := cx_rmore N) (by kernel_rfl) (cxO_ok trivial trivial) Try.func84 (by kernel_rfl) (by kernel_rfl) (loopsOK_of (k := 0) (by kernel_rfl) trivial) (by rfl) (by rfl) (by rfl) (rf := r_rput) ((s_rmore_ok ..).trans h) (fun rs' m h => by
    unfold r_rput at h
    split at h
    . cases h; exact ⟨rfl, rfl⟩
    . cases h)
noncomputable def e_ranswer {R : Type} (s : Ty35) (ds : List D) (K : List D -> Option R) : Option R :=
  match ds with
  | [.agg [.v (.int .i64 x0) .no, .v (.int .i64 x1) .no, .v (.int .i64 x2) .no, .v (.int .i64 x3) .no, .v (.int .i64 x4) .no, .v (.bool x5) .no, .v (.int .i64 x6) .no, .v (.int .i64 x7) .no, .v (.int .i64 x8) .no, .v (.bool x9) .no, .v (.int .i64 x10) .no, .v (.bool x11) .no, .v (.bytes x12) .no, .v (.sl 27 x13) .no, .v (.bytes x14) .no], .agg [.v (.int .i64 x15) .no, .v (.int .i64 x16) .no, .v (.int .i64 x17) .no, .v (.bool x18) .no, .v (.int .i64 x19) .no, .v (.bool x20) .no, .v (.bytes x21) .no]] => bnd1 (s x0 x1 x2 x3 x4 x5 x6 x7 x8 x9 x10 x11 x12 x13 x14 x15 x16 x17 x18 x19 x20 x21) fun r0 => K [dY r0]
  | _ => none
noncomputable def s_ranswer (N : Nat) (x0 x1 x2 x3 x4 : Int) (x5 : Bool) (x6 x7 x8 : Int) (x9 : Bool) (x10 : Int) (x11 : Bool) (x12 : List UInt8) (x13 : List V) (x14 : List UInt8) (x15 x16 x17 : Int) (x18 : Bool) (x19 : Int) (x20 : Bool) (x21 : List UInt8) : Option (List UInt8) := bnd1 (s_rput N x0 x1 x2 x3 x4 x5 x6 x7 x8 x9 x10 x11 x12 x13 x14 0 2 0 false x19 true x21) fun l0 => some l0
noncomputable def cx_ranswer (N : Nat) : Cx := cxO [⟨55, e_rput (s_rput N)⟩] []
theorem s_ranswer_ok (N : Nat) (x0 x1 x2 x3 x4 x5 x6 x7 x8 x9 x10 x11 x12 x13 x14 x15 x16 x17 x18 x19 x20 x21 : _) : bodyK (cx_ranswer N) Try.f75 [g4a x0 x1 x2 x3 x4 x5 x6 x7 x8 x9 x10 x11 x12 x13 x14, g0a x15 x16 x17 x18 x19 x20 x21] [] r_rput = s_ranswer N x0 x1 x2 x3 x4 x5 x6 x7 x8 x9 x10 x11 x12 x13 x14 x15 x16 x17 x18 x19 x20 x21 := by
  kernel_rfl
abbrev Q_ranswer (s : Ty35) : Prop := ∀ x0 x1 x2 x3 x4 x5 x6 x7 x8 x9 x10 x11 x12 x13 x14 x15 x16 x17 x18 x19 x20 x21 r0, s x0 x1 x2 x3 x4 x5 x6 x7 x8 x9 x10 x11 x12 x13 x14 x15 x16 x17 x18 x19 x20 x21 = some r0 -> PureRet Try.prog T 75 [g4a x0 x1 x2 x3 x4 x5 x6 x7 x8 x9 x10 x11 x12 x13 x14, g0a x15 x16 x17 x18 x19 x20 x21] [dY r0]
theorem eo_ranswer (s : Ty35) (hs : Q_ranswer s) : EntOK Try.prog T ⟨75, e_ranswer s⟩ := by
  refine ⟨goes_of Try.func75 (by kernel_rfl) (c := bodyOf Try.f75) (by kernel_rfl), fun R ds K r h => ?_, fun R ds K => ?_⟩
  . simp only [e_ranswer] at h
    split at h
    . obtain ⟨r0, h1, h2⟩ := bnd1_some h
      exact ⟨_, h2, hs _ _ _ _ _ _ _ _ _ _ _ _ _ _ _ _ _ _ _ _ _ _ _ h1⟩
    . cases h
  . simp only [e_ranswer]
    split
    . rw [bnd1_b]; rfl
    . rfl
theorem p_ranswer (N : Nat) : Q_ranswer (s_ranswer N) := fun x0 x1 x2 x3 x4 x5 x6 x7 x8 x9 x10 x11 x12 x13 x14 x15 x16 x17 x18 x19 x20 x21 r0 h => pure_of (cx := cx_ranswer N) (by kernel_rfl) (cxO_ok ⟨eo_rput _ (p_rput N), trivial⟩ trivial) Try.func75 (by kernel_rfl) (by kernel_rfl) (loopsOK_of (k := 0) (by kernel_rfl) trivial) (by rfl) (by rfl) (by rfl) (rf := r_rput) ((s_ranswer_ok ..).trans h) (fun rs' m h => by
    unfold r_rput at h
    split at h
    . cases h; exact ⟨rfl, rfl⟩
    . cases h)
abbrev Ty40 := Int -> Int -> Int -> Int -> Int -> Bool -> Int -> Int -> Int -> Bool -> Int -> Bool -> List UInt8 -> List V -> List UInt8 -> Int -> Int -> Int -> Bool -> Int -> Option (List UInt8)
noncomputable def e_roffer {R : Type} (s : Ty40) (ds : List D) (K : List D -> Option R) : Option R :=
  match ds with
  | [.agg [.v (.int .i64 x0) .no, .v (.int .i64 x1) .no, .v (.int .i64 x2) .no, .v (.int .i64 x3) .no, .v (.int .i64 x4) .no, .v (.bool x5) .no, .v (.int .i64 x6) .no, .v (.int .i64 x7) .no, .v (.int .i64 x8) .no, .v (.bool x9) .no, .v (.int .i64 x10) .no, .v (.bool x11) .no, .v (.bytes x12) .no, .v (.sl 27 x13) .no, .v (.bytes x14) .no, .v (.int .i64 x15) .no, .v (.int .i64 x16) .no, .v (.int .i64 x17) .no, .v (.bool x18) .no, .v (.int .i64 x19) .no]] => bnd1 (s x0 x1 x2 x3 x4 x5 x6 x7 x8 x9 x10 x11 x12 x13 x14 x15 x16 x17 x18 x19) fun r0 => K [dY r0]
  | _ => none
noncomputable def s_roffer (N : Nat) (x0 x1 x2 x3 x4 : Int) (x5 : Bool) (x6 x7 x8 : Int) (x9 : Bool) (x10 : Int) (x11 : Bool) (x12 : List UInt8) (x13 : List V) (x14 : List UInt8) (x15 x16 x17 : Int) (x18 : Bool) (x19 : Int) : Option (List UInt8) := bnd1 (s_rput N x0 x1 x2 x3 x4 x5 x6 x7 x8 x9 x10 x11 x12 x13 x14 0 2 0 false 1 false [UInt8.ofNat (IntKind.u8.wrap x16).toNat]) fun l0 => some l0
noncomputable def cx_roffer (N : Nat) : Cx := cxO [⟨55, e_rput (s_rput N)⟩] []
theorem s_roffer_ok (N : Nat) (x0 x1 x2 x3 x4 x5 x6 x7 x8 x9 x10 x11 x12 x13 x14 x15 x16 x17 x18 x19 : _) : bodyK (cx_roffer N) Try.f72 [g3a x0 x1 x2 x3 x4 x5 x6 x7 x8 x9 x10 x11 x12 x13 x14 x15 x16 x17 x18 x19] [] r_rput = s_roffer N x0 x1 x2 x3 x4 x5 x6 x7 x8 x9 x10 x11 x12 x13 x14 x15 x16 x17 x18 x19 := by
  kernel_rfl
abbrev Q_roffer (s : Ty40) : Prop := ∀ x0 x1 x2 x3 x4 x5 x6 x7 x8 x9 x10 x11 x12 x13 x14 x15 x16 x17 x18 x19 r0, s x0 x1 x2 x3 x4 x5 x6 x7 x8 x9 x10 x11 x12 x13 x14 x15 x16 x17 x18 x19 = some r0 -> PureRet Try.prog T 72 [g3a x0 x1 x2 x3 x4 x5 x6 x7 x8 x9 x10 x11 x12 x13 x14 x15 x16 x17 x18 x19] [dY r0]
theorem eo_roffer (s : Ty40) (hs : Q_roffer s) : EntOK Try.prog T ⟨72, e_roffer s⟩ := by
  refine ⟨goes_of Try.func72 (by kernel_rfl) (c := bodyOf Try.f72) (by kernel_rfl), fun R ds K r h => ?_, fun R ds K => ?_⟩
  . simp only [e_roffer] at h
    split at h
    . obtain ⟨r0, h1, h2⟩ := bnd1_some h
      exact ⟨_, h2, hs _ _ _ _ _ _ _ _ _ _ _ _ _ _ _ _ _ _ _ _ _ h1⟩
    . cases h
  . simp only [e_roffer]
    split
    . rw [bnd1_b]; rfl
    . rfl
theorem p_roffer (N : Nat) : Q_roffer (s_roffer N) := fun x0 x1 x2 x3 x4 x5 x6 x7 x8 x9 x10 x11 x12 x13 x14 x15 x16 x17 x18 x19 r0 h => pure_of (cx := cx_roffer N) (by kernel_rfl) (cxO_ok ⟨eo_rput _ (p_rput N), trivial⟩ trivial) Try.func72 (by kernel_rfl) (by kernel_rfl) (loopsOK_of (k := 0) (by kernel_rfl) trivial) (by rfl) (by rfl) (by rfl) (rf := r_rput) ((s_roffer_ok ..).trans h) (fun rs' m h => by
    unfold r_rput at h
    split at h
    . cases h; exact ⟨rfl, rfl⟩
    . cases h)
abbrev Ty41 := Int -> Int -> Int -> Int -> Int -> Bool -> Int -> Int -> Int -> Bool -> Int -> Bool -> List UInt8 -> List V -> List UInt8 -> Int -> Int -> Int -> Bool -> Int -> Int -> Option (Int × Int × Int × Int × Int × Bool × Int × Int × Int × Bool × Int × Bool × List UInt8 × List V × List UInt8 × Int × Int × Int × Bool × Int × List UInt8)
noncomputable def e_rtFail {R : Type} (s : Ty41) (ds : List D) (K : List D -> Option R) : Option R :=
  match ds with
  | [.agg [.v (.int .i64 x0) .no, .v (.int .i64 x1) .no, .v (.int .i64 x2) .no, .v (.int .i64 x3) .no, .v (.int .i64 x4) .no, .v (.bool x5) .no, .v (.int .i64 x6) .no, .v (.int .i64 x7) .no, .v (.int .i64 x8) .no, .v (.bool x9) .no, .v (.int .i64 x10) .no, .v (.bool x11) .no, .v (.bytes x12) .no, .v (.sl 27 x13) .no, .v (.bytes x14) .no, .v (.int .i64 x15) .no, .v (.int .i64 x16) .no, .v (.int .i64 x17) .no, .v (.bool x18) .no, .v (.int .i64 x19) .no], .v (.int .i64 x20) .no] => bnd21 (s x0 x1 x2 x3 x4 x5 x6 x7 x8 x9 x10 x11 x12 x13 x14 x15 x16 x17 x18 x19 x20) fun r0 r1 r2 r3 r4 r5 r6 r7 r8 r9 r10 r11 r12 r13 r14 r15 r16 r17 r18 r19 r20 => K [.agg [dI r0, dI r1, dI r2, dI r3, dI r4, dB r5, dI r6, dI r7, dI r8, dB r9, dI r10, dB r11, dY r12, .v (.sl 27 r13) .no, dY r14, dI r15, dI r16, dI r17, dB r18, dI r19], dY r20]
  | _ => none
noncomputable def r_rtFail (rs : List D) (_ : Mem) : Option (Int × Int × Int × Int × Int × Bool × Int × Int × Int × Bool × Int × Bool × List UInt8 × List V × List UInt8 × Int × Int × Int × Bool × Int × List UInt8) :=
  match rs with
  | [.agg [.v (.int .i64 r0) _, .v (.int .i64 r1) _, .v (.int .i64 r2) _, .v (.int .i64 r3) _, .v (.int .i64 r4) _, .v (.bool r5) _, .v (.int .i64 r6) _, .v (.int .i64 r7) _, .v (.int .i64 r8) _, .v (.bool r9) _, .v (.int .i64 r10) _, .v (.bool r11) _, .v (.bytes r12) _, .v (.sl 27 r13) _, .v (.bytes r14) _, .v (.int .i64 r15) _, .v (.int .i64 r16) _, .v (.int .i64 r17) _, .v (.bool r18) _, .v (.int .i64 r19) _], .v (.bytes r20) _] => some (r0, r1, r2, r3, r4, r5, r6, r7, r8, r9, r10, r11, r12, r13, r14, r15, r16, r17, r18, r19, r20)
  | _ => none
noncomputable def s_rtFail (N : Nat) (x0 x1 x2 x3 x4 : Int) (x5 : Bool) (x6 x7 x8 : Int) (x9 : Bool) (x10 : Int) (x11 : Bool) (x12 : List UInt8) (x13 : List V) (x14 : List UInt8) (x15 x16 x17 : Int) (x18 : Bool) (x19 x20 : Int) : Option (Int × Int × Int × Int × Int × Bool × Int × Int × Int × Bool × Int × Bool × List UInt8 × List V × List UInt8 × Int × Int × Int × Bool × Int × List UInt8) := some (x0, x1, x2, x3, x4, x5, x6, x7, x8, x9, x10, x11, x12, x13, x14, 12, x16, x17, x18, x20, [])
noncomputable def cx_rtFail (N : Nat) : Cx := cxO [] []
theorem s_rtFail_ok (N : Nat) (x0 x1 x2 x3 x4 x5 x6 x7 x8 x9 x10 x11 x12 x13 x14 x15 x16 x17 x18 x19 x20 : _) : bodyK (cx_rtFail N) Try.f74 [g3a x0 x1 x2 x3 x4 x5 x6 x7 x8 x9 x10 x11 x12 x13 x14 x15 x16 x17 x18 x19, dI x20] [] r_rtFail = s_rtFail N x0 x1 x2 x3 x4 x5 x6 x7 x8 x9 x10 x11 x12 x13 x14 x15 x16 x17 x18 x19 x20 := by
  kernel_rfl
abbrev Q_rtFail (s : Ty41) : Prop := ∀ x0 x1 x2 x3 x4 x5 x6 x7 x8 x9 x10 x11 x12 x13 x14 x15 x16 x17 x18 x19 x20 r0 r1 r2 r3 r4 r5 r6 r7 r8 r9 r10 r11 r12 r13 r14 r15 r16 r17 r18 r19 r20, s x0 x1 x2 x3 x4 x5 x6 x7 x8 x9 x10 x11 x12 x13 x14 x15 x16 x17 x18 x19 x20 = some (r0, r1, r2, r3, r4, r5, r6, r7, r8, r9, r10, r11, r12, r13, r14, r15, r16, r17, r18, r19, r20) -> PureRet Try.prog T 74 [g3a x0 x1 x2 x3 x4 x5 x6 x7 x8 x9 x10 x11 x12 x13 x14 x15 x16 x17 x18 x19, dI x20] [g3a r0 r1 r2 r3 r4 r5 r6 r7 r8 r9 r10 r11 r12 r13 r14 r15 r16 r17 r18 r19, dY r20]
theorem eo_rtFail (s : Ty41) (hs : Q_rtFail s) : EntOK Try.prog T ⟨74, e_rtFail s⟩ := by
  refine ⟨goes_of Try.func74 (by kernel_rfl) (c := bodyOf Try.f74) (by kernel_rfl), fun R ds K r h => ?_, fun R ds K => ?_⟩
  . simp only [e_rtFail] at h
    split at h
    . obtain ⟨r0, r1, r2, r3, r4, r5, r6, r7, r8, r9, r10, r11, r12, r13, r14, r15, r16, r17, r18, r19, r20, h1, h2⟩ := bnd21_some h
      exact ⟨_, h2, hs _ _ _ _ _ _ _ _ _ _ _ _ _ _ _ _ _ _ _ _ _ _ _ _ _ _ _ _ _ _ _ _ _ _ _ _ _ _ _ _ _ _ h1⟩
    . cases h
  . simp only [e_rtFail]
    split
    . rw [bnd21_b]; rfl
    . rfl
theorem p_rtFail (N : Nat) : Q_rtFail (s_rtFail N) := fun x0 x1 x2 x3 x4 x5 x6 x7 x8 x9 x10 x11 x12 x13 x14 x15 x16 x17 x18 x19 x20 r0 r1 r2 r3 r4 r5 r6 r7 r8 r9 r10 r11 r12 r13 r14 r15 r16 r17 r18 r19 r20 h => pure_of (cx := cx_rtFail N) (by kernel_rfl) (cxO_ok trivial trivial) Try.func74 (by kernel_rfl) (by kernel_rfl) (loopsOK_of (k := 0) (by kernel_rfl) trivial) (by rfl) (by rfl) (by rfl) (rf := r_rtFail) ((s_rtFail_ok ..).trans h) (fun rs' m h => by
    unfold r_rtFail at h
    split at h
    . cases h; exact ⟨rfl, rfl⟩
    . cases h)
abbrev Ty42 := Int -> Int -> Int -> Int -> Int -> Bool -> Int -> Int -> Int -> Bool -> Int -> Bool -> List UInt8 -> List V -> List UInt8 -> Int -> Int -> Int -> Bool -> Int -> Int -> List UInt8 -> Option (Int × Int × Int × Int × Int × Bool × Int × Int × Int × Bool × Int × Bool × List UInt8 × List V × List UInt8 × Int × Int × Int × Bool × Int × List UInt8)
noncomputable def e_rtFailure {R : Type} (s : Ty42) (ds : List D) (K : List D -> Option R) : Option R :=
  match ds with
  | [.agg [.v (.int .i64 x0) .no, .v (.int .i64 x1) .no, .v (.int .i64 x2) .no, .v (.int .i64 x3) .no, .v (.int .i64 x4) .no, .v (.bool x5) .no, .v (.int .i64 x6) .no, .v (.int .i64 x7) .no, .v (.int .i64 x8) .no, .v (.bool x9) .no, .v (.int .i64 x10) .no, .v (.bool x11) .no, .v (.bytes x12) .no, .v (.sl 27 x13) .no, .v (.bytes x14) .no, .v (.int .i64 x15) .no, .v (.int .i64 x16) .no, .v (.int .i64 x17) .no, .v (.bool x18) .no, .v (.int .i64 x19) .no], .v (.int .i64 x20) .no, .v (.bytes x21) .no] => bnd21 (s x0 x1 x2 x3 x4 x5 x6 x7 x8 x9 x10 x11 x12 x13 x14 x15 x16 x17 x18 x19 x20 x21) fun r0 r1 r2 r3 r4 r5 r6 r7 r8 r9 r10 r11 r12 r13 r14 r15 r16 r17 r18 r19 r20 => K [.agg [dI r0, dI r1, dI r2, dI r3, dI r4, dB r5, dI r6, dI r7, dI r8, dB r9, dI r10, dB r11, dY r12, .v (.sl 27 r13) .no, dY r14, dI r15, dI r16, dI r17, dB r18, dI r19], dY r20]
  | _ => none
noncomputable def s_rtFailure (N : Nat) (x0 x1 x2 x3 x4 : Int) (x5 : Bool) (x6 x7 x8 : Int) (x9 : Bool) (x10 : Int) (x11 : Bool) (x12 : List UInt8) (x13 : List V) (x14 : List UInt8) (x15 x16 x17 : Int) (x18 : Bool) (x19 x20 : Int) (x21 : List UInt8) : Option (Int × Int × Int × Int × Int × Bool × Int × Int × Int × Bool × Int × Bool × List UInt8 × List V × List UInt8 × Int × Int × Int × Bool × Int × List UInt8) := br (decide (10 < IntKind.i64.wrap (x17 + 1))) (bnd21 (s_rtFail N x0 x1 x2 x3 x4 x5 x6 x7 x8 x9 x10 x11 x12 x13 x14 x15 x16 (IntKind.i64.wrap (x17 + 1)) x18 x19 x20) fun n0 n1 n2 n3 n4 b5 n6 n7 n8 b9 n10 b11 l12 l13 l14 n15 n16 n17 b18 n19 l20 => some (n0, n1, n2, n3, n4, b5, n6, n7, n8, b9, n10, b11, l12, l13, l14, n15, n16, n17, b18, n19, l20)) (some (x0, x1, x2, x3, x4, x5, x6, x7, x8, x9, x10, x11, x12, x13, x14, x15, x16, IntKind.i64.wrap (x17 + 1), x18, x19, x21))
noncomputable def cx_rtFailure (N : Nat) : Cx := cxO [⟨74, e_rtFail (s_rtFail N)⟩] []
theorem s_rtFailure_ok (N : Nat) (x0 x1 x2 x3 x4 x5 x6 x7 x8 x9 x10 x11 x12 x13 x14 x15 x16 x17 x18 x19 x20 x21 : _) : bodyK (cx_rtFailure N) Try.f71 [g3a x0 x1 x2 x3 x4 x5 x6 x7 x8 x9 x10 x11 x12 x13 x14 x15 x16 x17 x18 x19, dI x20, dY x21] [] r_rtFail = s_rtFailure N x0 x1 x2 x3 x4 x5 x6 x7 x8 x9 x10 x11 x12 x13 x14 x15 x16 x17 x18 x19 x20 x21 := by
  kernel_rfl
abbrev Q_rtFailure (s : Ty42) : Prop := ∀ x0 x1 x2 x3 x4 x5 x6 x7 x8 x9 x10 x11 x12 x13 x14 x15 x16 x17 x18 x19 x20 x21 r0 r1 r2 r3 r4 r5 r6 r7 r8 r9 r10 r11 r12 r13 r14 r15 r16 r17 r18 r19 r20, s x0 x1 x2 x3 x4 x5 x6 x7 x8 x9 x10 x11 x12 x13 x14 x15 x16 x17 x18 x19 x20 x21 = some (r0, r1, r2, r3, r4, r5, r6, r7, r8, r9, r10, r11, r12, r13, r14, r15, r16, r17, r18, r19, r20) -> PureRet Try.prog T 71 [g3a x0 x1 x2 x3 x4 x5 x6 x7 x8 x9 x10 x11 x12 x13 x14 x15 x16 x17 x18 x19, dI x20, dY x21] [g3a r0 r1 r2 r3 r4 r5 r6 r7 r8 r9 r10 r11 r12 r13 r14 r15 r16 r17 r18 r19, dY r20]
theorem eo_rtFailure (s : Ty42) (hs : Q_rtFailure s) : EntOK Try.prog T ⟨71, e_rtFailure s⟩ := by
  refine ⟨goes_of Try.func71 (by kernel_rfl) (c := bodyOf Try.f71) (by kernel_rfl), fun R ds K r h => ?_, fun R ds K => ?_⟩
  . simp only [e_rtFailure] at h
    split at h
    . obtain ⟨r0, r1, r2, r3, r4, r5, r6, r7, r8, r9, r10, r11, r12, r13, r14, r15, r16, r17, r18, r19, r20, h1, h2⟩ := bnd21_some h
      exact ⟨_, h2, hs _ _ _ _ _ _ _ _ _ _ _ _ _ _ _ _ _ _ _ _ _ _ _ _ _ _ _ _ _ _ _ _ _ _ _ _ _ _ _ _ _ _ _ h1⟩
    . cases h
  . simp only [e_rtFailure]
    split
    . rw [bnd21_b]; rfl
    . rfl
theorem p_rtFailure (N : Nat) : Q_rtFailure (s_rtFailure N) := fun x0 x1 x2 x3 x4 x5 x6 x7 x8 x9 x10 x11 x12 x13 x14 x15 x16 x17 x18 x19 x20 x21 r0 r1 r2 r3 r4 r5 r6 r7 r8 r9 r10 r11 r12 r13 r14 r15 r16 r17 r18 r19 r20 h => pure_of (cx := cx_rtFailure N) (by kernel_rfl) (cxO_ok ⟨eo_rtFail _ (p_rtFail N), trivial⟩ trivial) Try.func71 (by kernel_rfl) (by kernel_rfl) (loopsOK_of (k := 0) (by kernel_rfl) trivial) (by rfl) (by rfl) (by rfl) (rf := r_rtFail) ((s_rtFailure_ok ..).trans h) (fun rs' m h => by
    unfold r_rtFail at h
    split at h
    . cases h; exact ⟨rfl, rfl⟩
    . cases h)
abbrev Ty43 := Int -> Int -> Int -> Int -> Int -> Bool -> Int -> Int -> Int -> Bool -> Int -> Bool -> List UInt8 -> List V -> List UInt8 -> Int -> Int -> Int -> Bool -> Int -> Int -> Int -> Int -> Bool -> Int -> Bool -> List UInt8 -> Option (Int × Int × Int × Int × Int × Bool × Int × Int × Int × Bool × Int × Bool × List UInt8 × List V × List UInt8 × Int × Int × Int × Bool × Int × List UInt8)
noncomputable def e_rtInfo {R : Type} (s : Ty43) (ds : List D) (K : List D -> Option R) : Option R :=
  match ds with
  | [.agg [.v (.int .i64 x0) .no, .v (.int .i64 x1) .no, .v (.int .i64 x2) .no, .v (.int .i64 x3) .no, .v (.int .i64 x4) .no, .v (.bool x5) .no, .v (.int .i64 x6) .no, .v (.int .i64 x7) .no, .v (.int .i64 x8) .no, .v (.bool x9) .no, .v (.int .i64 x10) .no, .v (.bool x11) .no, .v (.bytes x12) .no, .v (.sl 27 x13) .no, .v (.bytes x14) .no, .v (.int .i64 x15) .no, .v (.int .i64 x16) .no, .v (.int .i64 x17) .no, .v (.bool x18) .no, .v (.int .i64 x19) .no], .agg [.v (.int .i64 x20) .no, .v (.int .i64 x21) .no, .v (.int .i64 x22) .no, .v (.bool x23) .no, .v (.int .i64 x24) .no, .v (.bool x25) .no, .v (.bytes x26) .no]] => bnd21 (s x0 x1 x2 x3 x4 x5 x6 x7 x8 x9 x10 x11 x12 x13 x14 x15 x16 x17 x18 x19 x20 x21 x22 x23 x24 x25 x26) fun r0 r1 r2 r3 r4 r5 r6 r7 r8 r9 r10 r11 r12 r13 r14 r15 r16 r17 r18 r19 r20 => K [.agg [dI r0, dI r1, dI r2, dI r3, dI r4, dB r5, dI r6, dI r7, dI r8, dB r9, dI r10, dB r11, dY r12, .v (.sl 27 r13) .no, dY r14, dI r15, dI r16, dI r17, dB r18, dI r19], dY r20]
  | _ => none
noncomputable def s_rtInfo (N : Nat) (x0 x1 x2 x3 x4 : Int) (x5 : Bool) (x6 x7 x8 : Int) (x9 : Bool) (x10 : Int) (x11 : Bool) (x12 : List UInt8) (x13 : List V) (x14 : List UInt8) (x15 x16 x17 : Int) (x18 : Bool) (x19 x20 x21 x22 : Int) (x23 : Bool) (x24 : Int) (x25 : Bool) (x26 : List UInt8) : Option (Int × Int × Int × Int × Int × Bool × Int × Int × Int × Bool × Int × Bool × List UInt8 × List V × List UInt8 × Int × Int × Int × Bool × Int × List UInt8) := br (!decide (x22 = x3)) (bnd1 (s_rready N x0 x1 x2 x3 x4 x5 x6 x7 x8 x9 x10 x11 x12 x13 x14 2) fun l0 => bnd21 (s_rtFailure N x0 x1 x2 x3 x4 x5 x6 x7 x8 x9 x10 x11 x12 x13 x14 x15 x16 x17 x18 x19 28 l0) fun n1 n2 n3 n4 n5 b6 n7 n8 n9 b10 n11 b12 l13 l14 l15 n16 n17 n18 b19 n20 l21 => some (n1, n2, n3, n4, n5, b6, n7, n8, n9, b10, n11, b12, l13, l14, l15, n16, n17, n18, b19, n20, l21)) (br (decide (0 < (x13.length : Int))) (bnd1 (s_rready N x0 x1 x2 x3 x4 x5 x6 x7 x8 x9 x10 x11 x12 x13 x14 2) fun l22 => bnd21 (s_rtFailure N x0 x1 x2 x3 x4 x5 x6 x7 x8 x9 x10 x11 x12 x13 x14 x15 x16 x17 x18 x19 28 l22) fun n23 n24 n25 n26 n27 b28 n29 n30 n31 b32 n33 b34 l35 l36 l37 n38 n39 n40 b41 n42 l43 => some (n23, n24, n25, n26, n27, b28, n29, n30, n31, b32, n33, b34, l35, l36, l37, n38, n39, n40, b41, n42, l43)) (bnd1 (s_rmore N x14 x26) fun l44 => br (decide (65538 < (l44.length : Int))) (bnd21 (s_rtFail N x0 x1 x2 (IntKind.i64.wrap (1 - x3)) x4 x5 x6 x7 x8 x9 x10 x11 x12 x13 l44 x15 x16 0 x18 x19 28) fun n45 n46 n47 n48 n49 b50 n51 n52 n53 b54 n55 b56 l57 l58 l59 n60 n61 n62 b63 n64 l65 => some (n45, n46, n47, n48, n49, b50, n51, n52, n53, b54, n55, b56, l57, l58, l59, n60, n61, n62, b63, n64, l65)) (br x23 (bnd1 (s_rready N x0 x1 x2 (IntKind.i64.wrap (1 - x3)) x4 x5 x6 x7 x8 x9 x10 x11 x12 x13 l44 0) fun l66 => some (x0, x1, x2, IntKind.i64.wrap (1 - x3), x4, x5, x6, x7, x8, x9, x10, x11, x12, x13, l44, x15, x16, 0, x18, x19, l66)) (some (x0, x1, x2, IntKind.i64.wrap (1 - x3), x4, x5, x6, x7, x8, x9, x10, x11, x12, x13, l44, 0, x16, 0, true, x19, [])))))
noncomputable def cx_rtInfo (N : Nat) : Cx := cxO [⟨53, e_rready (s_rready N)⟩, ⟨71, e_rtFailure (s_rtFailure N)⟩, ⟨84, e_rmore (s_rmore N)⟩, ⟨74, e_rtFail (s_rtFail N)⟩] []
theorem s_rtInfo_ok (N : Nat) (x0 x1 x2 x3 x4 x5 x6 x7 x8 x9 x10 x11 x12 x13 x14 x15 x16 x17 x18 x19 x20 x21 x22 x23 x24 x25 x26 : _) : bodyK (cx_rtInfo N) Try.f73 [g3a x0 x1 x2 x3 x4 x5 x6 x7 x8 x9 x10 x11 x12 x13 x14 x15 x16 x17 x18 x19, g0a x20 x21 x22 x23 x24 x25 x26] [] r_rtFail = s_rtInfo N x0 x1 x2 x3 x4 x5 x6 x7 x8 x9 x10 x11 x12 x13 x14 x15 x16 x17 x18 x19 x20 x21 x22 x23 x24 x25 x26 := by
  kernel_rfl
abbrev Q_rtInfo (s : Ty43) : Prop := ∀ x0 x1 x2 x3 x4 x5 x6 x7 x8 x9 x10 x11 x12 x13 x14 x15 x16 x17 x18 x19 x20 x21 x22 x23 x24 x25 x26 r0 r1 r2 r3 r4 r5 r6 r7 r8 r9 r10 r11 r12 r13 r14 r15 r16 r17 r18 r19 r20, s x0 x1 x2 x3 x4 x5 x6 x7 x8 x9 x10 x11 x12 x13 x14 x15 x16 x17 x18 x19 x20 x21 x22 x23 x24 x25 x26 = some (r0, r1, r2, r3, r4, r5, r6, r7, r8, r9, r10, r11, r12, r13, r14, r15, r16, r17, r18, r19, r20) -> PureRet Try.prog T 73 [g3a x0 x1 x2 x3 x4 x5 x6 x7 x8 x9 x10 x11 x12 x13 x14 x15 x16 x17 x18 x19, g0a x20 x21 x22 x23 x24 x25 x26] [g3a r0 r1 r2 r3 r4 r5 r6 r7 r8 r9 r10 r11 r12 r13 r14 r15 r16 r17 r18 r19, dY r20]
theorem eo_rtInfo (s : Ty43) (hs : Q_rtInfo s) : EntOK Try.prog T ⟨73, e_rtInfo s⟩ := by
  refine ⟨goes_of Try.func73 (by kernel_rfl) (c := bodyOf Try.f73) (by kernel_rfl), fun R ds K r h => ?_, fun R ds K => ?_⟩
  . simp only [e_rtInfo] at h
    split at h
    . obtain ⟨r0, r1, r2, r3, r4, r5, r6, r7, r8, r9, r10, r11, r12, r13, r14, r15, r16, r17, r18, r19, r20, h1, h2⟩ := bnd21_some h
      exact ⟨_, h2, hs _ _ _ _ _ _ _ _ _ _ _ _ _ _ _ _ _ _ _ _ _ _ _ _ _ _ _ _ _ _ _ _ _ _ _ _ _ _ _ _ _ _ _ _ _ _ _ _ h1⟩
    . cases h
  . simp only [e_rtInfo]
    split
    . rw [bnd21_b]; rfl
    . rfl
theorem p_rtInfo (N : Nat) : Q_rtInfo (s_rtInfo N) := fun x0 x1 x2 x3 x4 x5 x6 x7 x8 x9 x10 x11 x12 x13 x14 x15 x16 x17 x18 x19 x20 x21 x22 x23 x24 x25 x26 r0 r1 r2 r3 r4 r5 r6 r7 r8 r9 r10 r11 r12 r13 r14 r15 r16 r17 r18 r19 r20 h => pure_of (cx := cx_rtInfo N) (by kernel_rfl) (cxO_ok ⟨eo_rready _ (p_rready N), eo_rtFailure _ (p_rtFailure N), eo_rmore _ (p_rmore N), eo_rtFail _ (p_rtFail N), trivial⟩ trivial) Try.func73 (by kernel_rfl) (by kernel_rfl) (loopsOK_of (k := 0) (by kernel_rfl) trivial) (by rfl) (by rfl) (by rfl) (rf := r_rtFail) ((s_rtInfo_ok ..).trans h) (fun rs' m h => by
    unfold r_rtFail at h
    split at h
    . cases h; exact ⟨rfl, rfl⟩
    . cases h)
abbrev Ty44 := Int -> Int -> Int -> Int -> Int -> Bool -> Int -> Int -> Int -> Bool -> Int -> Bool -> List UInt8 -> List V -> List UInt8 -> Int -> Int -> Int -> Bool -> Int -> List UInt8 -> Option (Int × Int × Int × Int × Int × Bool × Int × Int × Int × Bool × Int × Bool × List UInt8 × List V × List UInt8 × Int × Int × Int × Bool × Int × List UInt8)
noncomputable def e_rtReceive {R : Type} (s : Ty44) (ds : List D) (K : List D -> Option R) : Option R :=
  match ds with
  | [.agg [.v (.int .i64 x0) .no, .v (.int .i64 x1) .no, .v (.int .i64 x2) .no, .v (.int .i64 x3) .no, .v (.int .i64 x4) .no, .v (.bool x5) .no, .v (.int .i64 x6) .no, .v (.int .i64 x7) .no, .v (.int .i64 x8) .no, .v (.bool x9) .no, .v (.int .i64 x10) .no, .v (.bool x11) .no, .v (.bytes x12) .no, .v (.sl 27 x13) .no, .v (.bytes x14) .no, .v (.int .i64 x15) .no, .v (.int .i64 x16) .no, .v (.int .i64 x17) .no, .v (.bool x18) .no, .v (.int .i64 x19) .no], .v (.bytes x20) .no] => bnd21 (s x0 x1 x2 x3 x4 x5 x6 x7 x8 x9 x10 x11 x12 x13 x14 x15 x16 x17 x18 x19 x20) fun r0 r1 r2 r3 r4 r5 r6 r7 r8 r9 r10 r11 r12 r13 r14 r15 r16 r17 r18 r19 r20 => K [.agg [dI r0, dI r1, dI r2, dI r3, dI r4, dB r5, dI r6, dI r7, dI r8, dB r9, dI r10, dB r11, dY r12, .v (.sl 27 r13) .no, dY r14, dI r15, dI r16, dI r17, dB r18, dI r19], dY r20]
  | _ => none
noncomputable def s_rtReceive (N : Nat) (x0 x1 x2 x3 x4 : Int) (x5 : Bool) (x6 x7 x8 : Int) (x9 : Bool) (x10 : Int) (x11 : Bool) (x12 : List UInt8) (x13 : List V) (x14 : List UInt8) (x15 x16 x17 : Int) (x18 : Bool) (x19 : Int) (x20 : List UInt8) : Option (Int × Int × Int × Int × Int × Bool × Int × Int × Int × Bool × Int × Bool × List UInt8 × List V × List UInt8 × Int × Int × Int × Bool × Int × List UInt8) := br (decide (x15 = 0)) (some (x0, x1, x2, x3, x4, x5, x6, x7, x8, x9, x10, x11, x12, x13, x14, x15, x16, x17, x18, x19, [])) (br (decide (x15 = 12)) (some (x0, x1, x2, x3, x4, x5, x6, x7, x8, x9, x10, x11, x12, x13, x14, x15, x16, x17, x18, x19, [])) (bnd9 (s_rblock N x0 x1 x2 x3 x4 x5 x6 x7 x8 x9 x10 x11 x12 x13 x14 x20) fun n0 n1 n2 b3 n4 b5 l6 n7 b8 => br (decide (x15 = 10)) (br b8 (br (decide (n1 = 2)) (br (decide (n4 = 1)) (br b5 (br (decide (0 < (l6.length : Int))) (at? l6 0 fun u9 => br (decide (IntKind.i64.wrap (u9.toNat : Int) = x16)) (some (x0, x16, x2, x3, x4, x5, x6, x7, x8, x9, x10, x11, x12, x13, x14, 0, x16, x17, x18, x19, [])) (bnd1 (s_roffer N x0 x1 x2 x3 x4 x5 x6 x7 x8 x9 x10 x11 x12 x13 x14 x15 x16 x17 x18 x19) fun l10 => bnd21 (s_rtFailure N x0 x1 x2 x3 x4 x5 x6 x7 x8 x9 x10 x11 x12 x13 x14 x15 x16 x17 x18 x19 28 l10) fun n11 n12 n13 n14 n15 b16 n17 n18 n19 b20 n21 b22 l23 l24 l25 n26 n27 n28 b29 n30 l31 => some (n11, n12, n13, n14, n15, b16, n17, n18, n19, b20, n21, b22, l23, l24, l25, n26, n27, n28, b29, n30, l31))) none) (bnd1 (s_roffer N x0 x1 x2 x3 x4 x5 x6 x7 x8 x9 x10 x11 x12 x13 x14 x15 x16 x17 x18 x19) fun l32 => bnd21 (s_rtFailure N x0 x1 x2 x3 x4 x5 x6 x7 x8 x9 x10 x11 x12 x13 x14 x15 x16 x17 x18 x19 28 l32) fun n33 n34 n35 n36 n37 b38 n39 n40 n41 b42 n43 b44 l45 l46 l47 n48 n49 n50 b51 n52 l53 => some (n33, n34, n35, n36, n37, b38, n39, n40, n41, b42, n43, b44, l45, l46, l47, n48, n49, n50, b51, n52, l53))) (bnd1 (s_roffer N x0 x1 x2 x3 x4 x5 x6 x7 x8 x9 x10 x11 x12 x13 x14 x15 x16 x17 x18 x19) fun l54 => bnd21 (s_rtFailure N x0 x1 x2 x3 x4 x5 x6 x7 x8 x9 x10 x11 x12 x13 x14 x15 x16 x17 x18 x19 28 l54) fun n55 n56 n57 n58 n59 b60 n61 n62 n63 b64 n65 b66 l67 l68 l69 n70 n71 n72 b73 n74 l75 => some (n55, n56, n57, n58, n59, b60, n61, n62, n63, b64, n65, b66, l67, l68, l69, n70, n71, n72, b73, n74, l75))) (bnd1 (s_roffer N x0 x1 x2 x3 x4 x5 x6 x7 x8 x9 x10 x11 x12 x13 x14 x15 x16 x17 x18 x19) fun l76 => bnd21 (s_rtFailure N x0 x1 x2 x3 x4 x5 x6 x7 x8 x9 x10 x11 x12 x13 x14 x15 x16 x17 x18 x19 28 l76) fun n77 n78 n79 n80 n81 b82 n83 n84 n85 b86 n87 b88 l89 l90 l91 n92 n93 n94 b95 n96 l97 => some (n77, n78, n79, n80, n81, b82, n83, n84, n85, b86, n87, b88, l89, l90, l91, n92, n93, n94, b95, n96, l97))) (bnd1 (s_roffer N x0 x1 x2 x3 x4 x5 x6 x7 x8 x9 x10 x11 x12 x13 x14 x15 x16 x17 x18 x19) fun l98 => bnd21 (s_rtFailure N x0 x1 x2 x3 x4 x5 x6 x7 x8 x9 x10 x11 x12 x13 x14 x15 x16 x17 x18 x19 28 l98) fun n99 n100 n101 n102 n103 b104 n105 n106 n107 b108 n109 b110 l111 l112 l113 n114 n115 n116 b117 n118 l119 => some (n99, n100, n101, n102, n103, b104, n105, n106, n107, b108, n109, b110, l111, l112, l113, n114, n115, n116, b117, n118, l119))) (br (!b8) (bnd1 (s_rready N x0 x1 x2 x3 x4 x5 x6 x7 x8 x9 x10 x11 x12 x13 x14 n7) fun l120 => bnd21 (s_rtFailure N x0 x1 x2 x3 x4 x5 x6 x7 x8 x9 x10 x11 x12 x13 x14 x15 x16 x17 x18 x19 28 l120) fun n121 n122 n123 n124 n125 b126 n127 n128 n129 b130 n131 b132 l133 l134 l135 n136 n137 n138 b139 n140 l141 => some (n121, n122, n123, n124, n125, b126, n127, n128, n129, b130, n131, b132, l133, l134, l135, n136, n137, n138, b139, n140, l141)) (br (decide (n1 = 0)) (bnd21 (s_rtInfo N x0 x1 x2 x3 x4 x5 x6 x7 x8 x9 x10 x11 x12 x13 x14 x15 x16 x17 x18 x19 n0 n1 n2 b3 n4 b5 l6) fun n142 n143 n144 n145 n146 b147 n148 n149 n150 b151 n152 b153 l154 l155 l156 n157 n158 n159 b160 n161 l162 => some (n142, n143, n144, n145, n146, b147, n148, n149, n150, b151, n152, b153, l154, l155, l156, n157, n158, n159, b160, n161, l162)) (br (decide (n1 = 1)) (br (decide (n2 = x8)) (bnd1 (s_rput N x0 x1 x2 x3 x4 x5 x6 x7 x8 x9 x10 x11 x12 x13 x14 x6 x7 x8 x9 x10 x11 x12) fun l163 => bnd21 (s_rtFailure N x0 x1 x2 x3 x4 x5 x6 x7 x8 x9 x10 x11 x12 x13 x14 x15 x16 x17 x18 x19 28 l163) fun n164 n165 n166 n167 n168 b169 n170 n171 n172 b173 n174 b175 l176 l177 l178 n179 n180 n181 b182 n183 l184 => some (n164, n165, n166, n167, n168, b169, n170, n171, n172, b173, n174, b175, l176, l177, l178, n179, n180, n181, b182, n183, l184)) (br (decide ((x13.length : Int) = 0)) (bnd1 (s_rready N x0 x1 x2 x3 x4 x5 x6 x7 x8 x9 x10 x11 x12 x13 x14 0) fun l185 => bnd21 (s_rtFailure N x0 x1 x2 x3 x4 x5 x6 x7 x8 x9 x10 x11 x12 x13 x14 x15 x16 x17 x18 x19 28 l185) fun n186 n187 n188 n189 n190 b191 n192 n193 n194 b195 n196 b197 l198 l199 l200 n201 n202 n203 b204 n205 l206 => some (n186, n187, n188, n189, n190, b191, n192, n193, n194, b195, n196, b197, l198, l199, l200, n201, n202, n203, b204, n205, l206)) (bnd16 (s_rpiece N x0 x1 x2 x3 x4 x5 x6 x7 x8 x9 x10 x11 x12 x13 x14) fun n207 n208 n209 n210 n211 b212 n213 n214 n215 b216 n217 b218 l219 l220 l221 l222 => some (n207, n208, n209, n210, n211, b212, n213, n214, n215, b216, n217, b218, l219, l220, l221, x15, x16, 0, x18, x19, l222)))) (br b5 (bnd1 (s_rready N x0 x1 x2 x3 x4 x5 x6 x7 x8 x9 x10 x11 x12 x13 x14 2) fun l223 => bnd21 (s_rtFailure N x0 x1 x2 x3 x4 x5 x6 x7 x8 x9 x10 x11 x12 x13 x14 x15 x16 x17 x18 x19 28 l223) fun n224 n225 n226 n227 n228 b229 n230 n231 n232 b233 n234 b235 l236 l237 l238 n239 n240 n241 b242 n243 l244 => some (n224, n225, n226, n227, n228, b229, n230, n231, n232, b233, n234, b235, l236, l237, l238, n239, n240, n241, b242, n243, l244)) (br (decide (n4 = 0)) (bnd1 (s_rready N x0 x1 x2 x3 x4 x5 x6 x7 x8 x9 x10 x11 x12 x13 x14 2) fun l245 => bnd21 (s_rtFailure N x0 x1 x2 x3 x4 x5 x6 x7 x8 x9 x10 x11 x12 x13 x14 x15 x16 x17 x18 x19 28 l245) fun n246 n247 n248 n249 n250 b251 n252 n253 n254 b255 n256 b257 l258 l259 l260 n261 n262 n263 b264 n265 l266 => some (n246, n247, n248, n249, n250, b251, n252, n253, n254, b255, n256, b257, l258, l259, l260, n261, n262, n263, b264, n265, l266)) (br (decide (n4 = 2)) (bnd21 (s_rtFail N x0 x1 x2 x3 x4 x5 x6 x7 x8 x9 x10 x11 x12 x13 x14 x15 x16 x17 x18 x19 28) fun n267 n268 n269 n270 n271 b272 n273 n274 n275 b276 n277 b278 l279 l280 l281 n282 n283 n284 b285 n286 l287 => some (n267, n268, n269, n270, n271, b272, n273, n274, n275, b276, n277, b278, l279, l280, l281, n282, n283, n284, b285, n286, l287)) (br (decide (n4 = 1)) (br (decide (0 < (l6.length : Int))) (at? l6 0 fun u288 => bnd1 (s_ranswer N x0 x1 (IntKind.i64.wrap (u288.toNat : Int)) x3 x4 x5 x6 x7 x8 x9 x10 x11 x12 x13 x14 n0 n1 n2 b3 n4 b5 l6) fun l289 => some (x0, x1, IntKind.i64.wrap (u288.toNat : Int), x3, x4, x5, x6, x7, x8, x9, x10, x11, x12, x13, x14, x15, x16, 0, x18, x19, l289)) none) (bnd1 (s_ranswer N x0 x1 x2 x3 x4 x5 x6 x7 x8 x9 x10 x11 x12 x13 x14 n0 n1 n2 b3 n4 b5 l6) fun l290 => some (x0, x1, x2, x3, x4, x5, x6, x7, x8, x9, x10, x11, x12, x13, x14, x15, x16, 0, x18, x19, l290)))))))))))
noncomputable def cx_rtReceive (N : Nat) : Cx := cxO [⟨51, e_rblock (s_rblock N)⟩, ⟨72, e_roffer (s_roffer N)⟩, ⟨71, e_rtFailure (s_rtFailure N)⟩, ⟨53, e_rready (s_rready N)⟩, ⟨73, e_rtInfo (s_rtInfo N)⟩, ⟨55, e_rput (s_rput N)⟩, ⟨56, e_rpiece (s_rpiece N)⟩, ⟨74, e_rtFail (s_rtFail N)⟩, ⟨75, e_ranswer (s_ranswer N)⟩] []
theorem s_rtReceive_ok (N : Nat) (x0 x1 x2 x3 x4 x5 x6 x7 x8 x9 x10 x11 x12 x13 x14 x15 x16 x17 x18 x19 x20 : _) : bodyK (cx_rtReceive N) Try.f31 [g3a x0 x1 x2 x3 x4 x5 x6 x7 x8 x9 x10 x11 x12 x13 x14 x15 x16 x17 x18 x19, dY x20] [] r_rtFail = s_rtReceive N x0 x1 x2 x3 x4 x5 x6 x7 x8 x9 x10 x11 x12 x13 x14 x15 x16 x17 x18 x19 x20 := by
  kernel_rfl
abbrev Q_rtReceive (s : Ty44) : Prop := ∀ x0 x1 x2 x3 x4 x5 x6 x7 x8 x9 x10 x11 x12 x13 x14 x15 x16 x17 x18 x19 x20 r0 r1 r2 r3 r4 r5 r6 r7 r8 r9 r10 r11 r12 r13 r14 r15 r16 r17 r18 r19 r20, s x0 x1 x2 x3 x4 x5 x6 x7 x8 x9 x10 x11 x12 x13 x14 x15 x16 x17 x18 x19 x20 = some (r0, r1, r2, r3, r4, r5, r6, r7, r8, r9, r10, r11, r12, r13, r14, r15, r16, r17, r18, r19, r20) -> PureRet Try.prog T 31 [g3a x0 x1 x2 x3 x4 x5 x6 x7 x8 x9 x10 x11 x12 x13 x14 x15 x16 x17 x18 x19, dY x20] [g3a r0 r1 r2 r3 r4 r5 r6 r7 r8 r9 r10 r11 r12 r13 r14 r15 r16 r17 r18 r19, dY r20]
theorem eo_rtReceive (s : Ty44) (hs : Q_rtReceive s) : EntOK Try.prog T ⟨31, e_rtReceive s⟩ := by
  refine ⟨goes_of Try.func31 (by kernel_rfl) (c := bodyOf Try.f31) (by kernel_rfl), fun R ds K r h => ?_, fun R ds K => ?_⟩
  . simp only [e_rtReceive] at h
    split at h
    . obtain ⟨r0, r1, r2, r3, r4, r5, r6, r7, r8, r9, r10, r11, r12, r13, r14, r15, r16, r17, r18, r19, r20, h1, h2⟩ := bnd21_some h
      exact ⟨_, h2, hs _ _ _ _ _ _ _ _ _ _ _ _ _ _ _ _ _ _ _ _ _ _ _ _ _ _ _ _ _ _ _ _ _ _ _ _ _ _ _ _ _ _ h1⟩
    . cases h
  . simp only [e_rtReceive]
    split
    . rw [bnd21_b]; rfl
    . rfl
theorem p_rtReceive (N : Nat) : Q_rtReceive (s_rtReceive N) := fun x0 x1 x2 x3 x4 x5 x6 x7 x8 x9 x10 x11 x12 x13 x14 x15 x16 x17 x18 x19 x20 r0 r1 r2 r3 r4 r5 r6 r7 r8 r9 r10 r11 r12 r13 r14 r15 r16 r17 r18 r19 r20 h => pure_of (cx := cx_rtReceive N) (by kernel_rfl) (cxO_ok ⟨eo_rblock _ (p_rblock N), eo_roffer _ (p_roffer N), eo_rtFailure _ (p_rtFailure N), eo_rready _ (p_rready N), eo_rtInfo _ (p_rtInfo N), eo_rput _ (p_rput N), eo_rpiece _ (p_rpiece N), eo_rtFail _ (p_rtFail N), eo_ranswer _ (p_ranswer N), trivial⟩ trivial) Try.func31 (by kernel_rfl) (by kernel_rfl) (loopsOK_of (k := 0) (by kernel_rfl) trivial) (by rfl) (by rfl) (by rfl) (rf := r_rtFail) ((s_rtReceive_ok ..).trans h) (fun rs' m h => by
    unfold r_rtFail at h
    split at h
    . cases h; exact ⟨rfl, rfl⟩
    . cases h)
abbrev Ty45 := Int -> Int -> Int -> Int -> Int -> Bool -> Int -> Int -> Int -> Bool -> Int -> Bool -> List UInt8 -> List V -> List UInt8 -> Int -> Int -> Int -> Bool -> Int -> Option (Int × Int × Int × Int × Int × Bool × Int × Int × Int × Bool × Int × Bool × List UInt8 × List V × List UInt8 × Int × Int × Int × Bool × Int × List UInt8)
noncomputable def e_rtTimeout {R : Type} (s : Ty45) (ds : List D) (K : List D -> Option R) : Option R :=
  match ds with
  | [.agg [.v (.int .i64 x0) .no, .v (.int .i64 x1) .no, .v (.int .i64 x2) .no, .v (.int .i64 x3) .no, .v (.int .i64 x4) .no, .v (.bool x5) .no, .v (.int .i64 x6) .no, .v (.int .i64 x7) .no, .v (.int .i64 x8) .no, .v (.bool x9) .no, .v (.int .i64 x10) .no, .v (.bool x11) .no, .v (.bytes x12) .no, .v (.sl 27 x13) .no, .v (.bytes x14) .no, .v (.int .i64 x15) .no, .v (.int .i64 x16) .no, .v (.int .i64 x17) .no, .v (.bool x18) .no, .v (.int .i64 x19) .no]] => bnd21 (s x0 x1 x2 x3 x4 x5 x6 x7 x8 x9 x10 x11 x12 x13 x14 x15 x16 x17 x18 x19) fun r0 r1 r2 r3 r4 r5 r6 r7 r8 r9 r10 r11 r12 r13 r14 r15 r16 r17 r18 r19 r20 => K [.agg [dI r0, dI r1, dI r2, dI r3, dI r4, dB r5, dI r6, dI r7, dI r8, dB r9, dI r10, dB r11, dY r12, .v (.sl 27 r13) .no, dY r14, dI r15, dI r16, dI r17, dB r18, dI r19], dY r20]
  | _ => none
noncomputable def s_rtTimeout (N : Nat) (x0 x1 x2 x3 x4 : Int) (x5 : Bool) (x6 x7 x8 : Int) (x9 : Bool) (x10 : Int) (x11 : Bool) (x12 : List UInt8) (x13 : List V) (x14 : List UInt8) (x15 x16 x17 : Int) (x18 : Bool) (x19 : Int) : Option (Int × Int × Int × Int × Int × Bool × Int × Int × Int × Bool × Int × Bool × List UInt8 × List V × List UInt8 × Int × Int × Int × Bool × Int × List UInt8) := br (decide (x15 = 10)) (bnd1 (s_roffer N x0 x1 x2 x3 x4 x5 x6 x7 x8 x9 x10 x11 x12 x13 x14 x15 x16 x17 x18 x19) fun l0 => bnd21 (s_rtFailure N x0 x1 x2 x3 x4 x5 x6 x7 x8 x9 x10 x11 x12 x13 x14 x15 x16 x17 x18 x19 29 l0) fun n1 n2 n3 n4 n5 b6 n7 n8 n9 b10 n11 b12 l13 l14 l15 n16 n17 n18 b19 n20 l21 => some (n1, n2, n3, n4, n5, b6, n7, n8, n9, b10, n11, b12, l13, l14, l15, n16, n17, n18, b19, n20, l21)) (br (decide (x15 = 11)) (bnd1 (s_rready N x0 x1 x2 x3 x4 x5 x6 x7 x8 x9 x10 x11 x12 x13 x14 2) fun l22 => bnd21 (s_rtFailure N x0 x1 x2 x3 x4 x5 x6 x7 x8 x9 x10 x11 x12 x13 x14 x15 x16 x17 x18 x19 29 l22) fun n23 n24 n25 n26 n27 b28 n29 n30 n31 b32 n33 b34 l35 l36 l37 n38 n39 n40 b41 n42 l43 => some (n23, n24, n25, n26, n27, b28, n29, n30, n31, b32, n33, b34, l35, l36, l37, n38, n39, n40, b41, n42, l43)) (some (x0, x1, x2, x3, x4, x5, x6, x7, x8, x9, x10, x11, x12, x13, x14, x15, x16, x17, x18, x19, [])))
noncomputable def cx_rtTimeout (N : Nat) : Cx := cxO [⟨72, e_roffer (s_roffer N)⟩, ⟨71, e_rtFailure (s_rtFailure N)⟩, ⟨53, e_rready (s_rready N)⟩] []
theorem s_rtTimeout_ok (N : Nat) (x0 x1 x2 x3 x4 x5 x6 x7 x8 x9 x10 x11 x12 x13 x14 x15 x16 x17 x18 x19 : _) : bodyK (cx_rtTimeout N) Try.f35 [g3a x0 x1 x2 x3 x4 x5 x6 x7 x8 x9 x10 x11 x12 x13 x14 x15 x16 x17 x18 x19] [] r_rtFail = s_rtTimeout N x0 x1 x2 x3 x4 x5 x6 x7 x8 x9 x10 x11 x12 x13 x14 x15 x16 x17 x18 x19 := by
  kernel_rfl
abbrev Q_rtTimeout (s : Ty45) : Prop := ∀ x0 x1 x2 x3 x4 x5 x6 x7 x8 x9 x10 x11 x12 x13 x14 x15 x16 x17 x18 x19 r0 r1 r2 r3 r4 r5 r6 r7 r8 r9 r10 r11 r12 r13 r14 r15 r16 r17 r18 r19 r20, s x0 x1 x2 x3 x4 x5 x6 x7 x8 x9 x10 x11 x12 x13 x14 x15 x16 x17 x18 x19 = some (r0, r1, r2, r3, r4, r5, r6, r7, r8, r9, r10, r11, r12, r13, r14, r15, r16, r17, r18, r19, r20) -> PureRet Try.prog T 35 [g3a x0 x1 x2 x3 x4 x5 x6 x7 x8 x9 x10 x11 x12 x13 x14 x15 x16 x17 x18 x19] [g3a r0 r1 r2 r3 r4 r5 r6 r7 r8 r9 r10 r11 r12 r13 r14 r15 r16 r17 r18 r19, dY r20]
theorem eo_rtTimeout (s : Ty45) (hs : Q_rtTimeout s) : EntOK Try.prog T ⟨35, e_rtTimeout s⟩ := by
  refine ⟨goes_of Try.func35 (by kernel_rfl) (c := bodyOf Try.f35) (by kernel_rfl), fun R ds K r h => ?_, fun R ds K => ?_⟩
  . simp only [e_rtTimeout] at h
    split at h
    . obtain ⟨r0, r1, r2, r3, r4, r5, r6, r7, r8, r9, r10, r11, r12, r13, r14, r15, r16, r17, r18, r19, r20, h1, h2⟩ := bnd21_some h
      exact ⟨_, h2, hs _ _ _ _ _ _ _ _ _ _ _ _ _ _ _ _ _ _ _ _ _ _ _ _ _ _ _ _ _ _ _ _ _ _ _ _ _ _ _ _ _ h1⟩
    . cases h
  . simp only [e_rtTimeout]
    split
    . rw [bnd21_b]; rfl
    . rfl
theorem p_rtTimeout (N : Nat) : Q_rtTimeout (s_rtTimeout N) := fun x0 x1 x2 x3 x4 x5 x6 x7 x8 x9 x10 x11 x12 x13 x14 x15 x16 x17 x18 x19 r0 r1 r2 r3 r4 r5 r6 r7 r8 r9 r10 r11 r12 r13 r14 r15 r16 r17 r18 r19 r20 h => pure_of (cx := cx_rtTimeout N) (by kernel_rfl) (cxO_ok ⟨eo_roffer _ (p_roffer N), eo_rtFailure _ (p_rtFailure N), eo_rready _ (p_rready N), trivial⟩ trivial) Try.func35 (by kernel_rfl) (by kernel_rfl) (loopsOK_of (k := 0) (by kernel_rfl) trivial) (by rfl) (by rfl) (by rfl) (rf := r_rtFail) ((s_rtTimeout_ok ..).trans h) (fun rs' m h => by
    unfold r_rtFail at h
    split at h
    . cases h; exact ⟨rfl, rfl⟩
    . cases h)
abbrev Ty46 := Int -> Int -> Int -> Int -> Int -> Bool -> Int -> Int -> Int -> Bool -> Int -> Bool -> List UInt8 -> List V -> List UInt8 -> Int -> Int -> Int -> Bool -> Int -> Option (List UInt8 × Bool)
noncomputable def e_rtResponse {R : Type} (s : Ty46) (ds : List D) (K : List D -> Option R) : Option R :=
  match ds with
  | [.agg [.v (.int .i64 x0) .no, .v (.int .i64 x1) .no, .v (.int .i64 x2) .no, .v (.int .i64 x3) .no, .v (.int .i64 x4) .no, .v (.bool x5) .no, .v (.int .i64 x6) .no, .v (.int .i64 x7) .no, .v (.int .i64 x8) .no, .v (.bool x9) .no, .v (.int .i64 x10) .no, .v (.bool x11) .no, .v (.bytes x12) .no, .v (.sl 27 x13) .no, .v (.bytes x14) .no, .v (.int .i64 x15) .no, .v (.int .i64 x16) .no, .v (.int .i64 x17) .no, .v (.bool x18) .no, .v (.int .i64 x19) .no]] => bnd2 (s x0 x1 x2 x3 x4 x5 x6 x7 x8 x9 x10 x11 x12 x13 x14 x15 x16 x17 x18 x19) fun r0 r1 => K [dY r0, dB r1]
  | _ => none
noncomputable def r_rtResponse (rs : List D) (_ : Mem) : Option (List UInt8 × Bool) :=
  match rs with
  | [.v (.bytes r0) _, .v (.bool r1) _] => some (r0, r1)
  | _ => none
noncomputable def s_rtResponse (N : Nat) (x0 x1 x2 x3 x4 : Int) (x5 : Bool) (x6 x7 x8 : Int) (x9 : Bool) (x10 : Int) (x11 : Bool) (x12 : List UInt8) (x13 : List V) (x14 : List UInt8) (x15 x16 x17 : Int) (x18 : Bool) (x19 : Int) : Option (List UInt8 × Bool) := br (!x18) (some ([], false)) (some (x14, true))
noncomputable def cx_rtResponse (N : Nat) : Cx := cxO [] []
theorem s_rtResponse_ok (N : Nat) (x0 x1 x2 x3 x4 x5 x6 x7 x8 x9 x10 x11 x12 x13 x14 x15 x16 x17 x18 x19 : _) : bodyK (cx_rtResponse N) Try.f36 [g3a x0 x1 x2 x3 x4 x5 x6 x7 x8 x9 x10 x11 x12 x13 x14 x15 x16 x17 x18 x19] [] r_rtResponse = s_rtResponse N x0 x1 x2 x3 x4 x5 x6 x7 x8 x9 x10 x11 x12 x13 x14 x15 x16 x17 x18 x19 := by
  kernel_rfl
abbrev Q_rtResponse (s : Ty46) : Prop := ∀ x0 x1 x2 x3 x4 x5 x6 x7 x8 x9 x10 x11 x12 x13 x14 x15 x16 x17 x18 x19 r0 r1, s x0 x1 x2 x3 x4 x5 x6 x7 x8 x9 x10 x11 x12 x13 x14 x15 x16 x17 x18 x19 = some (r0, r1) -> PureRet Try.prog T 36 [g3a x0 x1 x2 x3 x4 x5 x6 x7 x8 x9 x10 x11 x12 x13 x14 x15 x16 x17 x18 x19] [dY r0, dB r1]
theorem eo_rtResponse (s : Ty46) (hs : Q_rtResponse s) : EntOK Try.prog T ⟨36, e_rtResponse s⟩ := by
  refine ⟨goes_of Try.func36 (by kernel_rfl) (c := bodyOf Try.f36) (by kernel_rfl), fun R ds K r h => ?_, fun R ds K => ?_⟩
  . simp only [e_rtResponse] at h
    split at h
    . obtain ⟨r0, r1, h1, h2⟩ := bnd2_some h
      exact ⟨_, h2, hs _ _ _ _ _ _ _ _ _ _ _ _ _ _ _ _ _ _ _ _ _ _ h1⟩
    . cases h
  . simp only [e_rtResponse]
    split
    . rw [bnd2_b]; rfl
    . rfl
theorem p_rtResponse (N : Nat) : Q_rtResponse (s_rtResponse N) := fun x0 x1 x2 x3 x4 x5 x6 x7 x8 x9 x10 x11 x12 x13 x14 x15 x16 x17 x18 x19 r0 r1 h => pure_of (cx := cx_rtResponse N) (by kernel_rfl) (cxO_ok trivial trivial) Try.func36 (by kernel_rfl) (by kernel_rfl) (loopsOK_of (k := 0) (by kernel_rfl) trivial) (by rfl) (by rfl) (by rfl) (rf := r_rtResponse) ((s_rtResponse_ok ..).trans h) (fun rs' m h => by
    unfold r_rtResponse at h
    split at h
    . cases h; exact ⟨rfl, rfl⟩
    . cases h)
abbrev Ty47 := Int -> Int -> Int -> Int -> Int -> Bool -> Int -> Int -> Int -> Bool -> Int -> Bool -> List UInt8 -> List V -> List UInt8 -> Int -> Int -> Int -> Bool -> Int -> Option (Int)
noncomputable def e_rtFailed {R : Type} (s : Ty47) (ds : List D) (K : List D -> Option R) : Option R :=
  match ds with
  | [.agg [.v (.int .i64 x0) .no, .v (.int .i64 x1) .no, .v (.int .i64 x2) .no, .v (.int .i64 x3) .no, .v (.int .i64 x4) .no, .v (.bool x5) .no, .v (.int .i64 x6) .no, .v (.int .i64 x7) .no, .v (.int .i64 x8) .no, .v (.bool x9) .no, .v (.int .i64 x10) .no, .v (.bool x11) .no, .v (.bytes x12) .no, .v (.sl 27 x13) .no, .v (.bytes x14) .no, .v (.int .i64 x15) .no, .v (.int .i64 x16) .no, .v (.int .i64 x17) .no, .v (.bool x18) .no, .v (.int .i64 x19) .no]] => bnd1 (s x0 x1 x2 x3 x4 x5 x6 x7 x8 x9 x10 x11 x12 x13 x14 x15 x16 x17 x18 x19) fun r0 => K [dI r0]
  | _ => none
noncomputable def s_rtFailed (N : Nat) (x0 x1 x2 x3 x4 : Int) (x5 : Bool) (x6 x7 x8 : Int) (x9 : Bool) (x10 : Int) (x11 : Bool) (x12 : List UInt8) (x13 : List V) (x14 : List UInt8) (x15 x16 x17 : Int) (x18 : Bool) (x19 : Int) : Option (Int) := br (!decide (x15 = 12)) (some 0) (some x19)
noncomputable def cx_rtFailed (N : Nat) : Cx := cxO [] []
theorem s_rtFailed_ok (N : Nat) (x0 x1 x2 x3 x4 x5 x6 x7 x8 x9 x10 x11 x12 x13 x14 x15 x16 x17 x18 x19 : _) : bodyK (cx_rtFailed N) Try.f37 [g3a x0 x1 x2 x3 x4 x5 x6 x7 x8 x9 x10 x11 x12 x13 x14 x15 x16 x17 x18 x19] [] r_cSize = s_rtFailed N x0 x1 x2 x3 x4 x5 x6 x7 x8 x9 x10 x11 x12 x13 x14 x15 x16 x17 x18 x19 := by
  kernel_rfl
abbrev Q_rtFailed (s : Ty47) : Prop := ∀ x0 x1 x2 x3 x4 x5 x6 x7 x8 x9 x10 x11 x12 x13 x14 x15 x16 x17 x18 x19 r0, s x0 x1 x2 x3 x4 x5 x6 x7 x8 x9 x10 x11 x12 x13 x14 x15 x16 x17 x18 x19 = some r0 -> PureRet Try.prog T 37 [g3a x0 x1 x2 x3 x4 x5 x6 x7 x8 x9 x10 x11 x12 x13 x14 x15 x16 x17 x18 x19] [dI r0]
theorem eo_rtFailed (s : Ty47) (hs : Q_rtFailed s) : EntOK Try.prog T ⟨37, e_rtFailed s⟩ := by
  refine ⟨goes_of Try.func37 (by kernel_rfl) (c := bodyOf Try.f37) (by kernel_rfl), fun R ds K r h => ?_, fun R ds K => ?_⟩
  . simp only [e_rtFailed] at h
    split at h
    . obtain ⟨r0, h1, h2⟩ := bnd1_some h
      exact ⟨_, h2, hs _ _ _ _ _ _ _ _ _ _ _ _ _ _ _ _ _ _ _ _ _ h1⟩
    . cases h
  . simp only [e_rtFailed]
    split
    . rw [bnd1_b]; rfl
    . rfl
theorem p_rtFailed (N : Nat) : Q_rtFailed (s_rtFailed N) := fun x0 x1 x2 x3 x4 x5 x6 x7 x8 x9 x10 x11 x12 x13 x14 x15 x16 x17 x18 x19 r0 h => pure_of (cx := cx_rtFailed N) (by kernel_rfl) (cxO_ok trivial trivial) Try.func37 (by kernel_rfl) (by kernel_rfl) (loopsOK_of (k := 0) (by kernel_rfl) trivial) (by rfl) (by rfl) (by rfl) (rf := r_cSize) ((s_rtFailed_ok ..).trans h) (fun rs' m h => by
    unfold r_cSize at h
    split at h
    . cases h; exact ⟨rfl, rfl⟩
    . cases h)
noncomputable def e_rtOffer {R : Type} (s : Ty41) (ds : List D) (K : List D -> Option R) : Option R :=
  match ds with
  | [.agg [.v (.int .i64 x0) .no, .v (.int .i64 x1) .no, .v (.int .i64 x2) .no, .v (.int .i64 x3) .no, .v (.int .i64 x4) .no, .v (.bool x5) .no, .v (.int .i64 x6) .no, .v (.int .i64 x7) .no, .v (.int .i64 x8) .no, .v (.bool x9) .no, .v (.int .i64 x10) .no, .v (.bool x11) .no, .v (.bytes x12) .no, .v (.sl 27 x13) .no, .v (.bytes x14) .no, .v (.int .i64 x15) .no, .v (.int .i64 x16) .no, .v (.int .i64 x17) .no, .v (.bool x18) .no, .v (.int .i64 x19) .no], .v (.int .i64 x20) .no] => bnd21 (s x0 x1 x2 x3 x4 x5 x6 x7 x8 x9 x10 x11 x12 x13 x14 x15 x16 x17 x18 x19 x20) fun r0 r1 r2 r3 r4 r5 r6 r7 r8 r9 r10 r11 r12 r13 r14 r15 r16 r17 r18 r19 r20 => K [.agg [dI r0, dI r1, dI r2, dI r3, dI r4, dB r5, dI r6, dI r7, dI r8, dB r9, dI r10, dB r11, dY r12, .v (.sl 27 r13) .no, dY r14, dI r15, dI r16, dI r17, dB r18, dI r19], dY r20]
  | _ => none
noncomputable def s_rtOffer (N : Nat) (x0 x1 x2 x3 x4 : Int) (x5 : Bool) (x6 x7 x8 : Int) (x9 : Bool) (x10 : Int) (x11 : Bool) (x12 : List UInt8) (x13 : List V) (x14 : List UInt8) (x15 x16 x17 : Int) (x18 : Bool) (x19 x20 : Int) : Option (Int × Int × Int × Int × Int × Bool × Int × Int × Int × Bool × Int × Bool × List UInt8 × List V × List UInt8 × Int × Int × Int × Bool × Int × List UInt8) := br (!decide (x15 = 0)) (some (x0, x1, x2, x3, x4, x5, x6, x7, x8, x9, x10, x11, x12, x13, x14, x15, x16, x17, x18, x19, [])) (br (decide (x20 < 1)) (some (x0, x1, x2, x3, x4, x5, x6, x7, x8, x9, x10, x11, x12, x13, x14, x15, x16, x17, x18, x19, [])) (br (decide (254 < x20)) (some (x0, x1, x2, x3, x4, x5, x6, x7, x8, x9, x10, x11, x12, x13, x14, x15, x16, x17, x18, x19, [])) (bnd1 (s_roffer N x0 x1 x2 x3 x4 x5 x6 x7 x8 x9 x10 x11 x12 x13 x14 10 x20 0 x18 x19) fun l0 => some (x0, x1, x2, x3, x4, x5, x6, x7, x8, x9, x10, x11, x12, x13, x14, 10, x20, 0, x18, x19, l0))))
noncomputable def cx_rtOffer (N : Nat) : Cx := cxO [⟨72, e_roffer (s_roffer N)⟩] []
theorem s_rtOffer_ok (N : Nat) (x0 x1 x2 x3 x4 x5 x6 x7 x8 x9 x10 x11 x12 x13 x14 x15 x16 x17 x18 x19 x20 : _) : bodyK (cx_rtOffer N) Try.f34 [g3a x0 x1 x2 x3 x4 x5 x6 x7 x8 x9 x10 x11 x12 x13 x14 x15 x16 x17 x18 x19, dI x20] [] r_rtFail = s_rtOffer N x0 x1 x2 x3 x4 x5 x6 x7 x8 x9 x10 x11 x12 x13 x14 x15 x16 x17 x18 x19 x20 := by
  kernel_rfl
abbrev Q_rtOffer (s : Ty41) : Prop := ∀ x0 x1 x2 x3 x4 x5 x6 x7 x8 x9 x10 x11 x12 x13 x14 x15 x16 x17 x18 x19 x20 r0 r1 r2 r3 r4 r5 r6 r7 r8 r9 r10 r11 r12 r13 r14 r15 r16 r17 r18 r19 r20, s x0 x1 x2 x3 x4 x5 x6 x7 x8 x9 x10 x11 x12 x13 x14 x15 x16 x17 x18 x19 x20 = some (r0, r1, r2, r3, r4, r5, r6, r7, r8, r9, r10, r11, r12, r13, r14, r15, r16, r17, r18, r19, r20) -> PureRet Try.prog T 34 [g3a x0 x1 x2 x3 x4 x5 x6 x7 x8 x9 x10 x11 x12 x13 x14 x15 x16 x17 x18 x19, dI x20] [g3a r0 r1 r2 r3 r4 r5 r6 r7 r8 r9 r10 r11 r12 r13 r14 r15 r16 r17 r18 r19, dY r20]
theorem eo_rtOffer (s : Ty41) (hs : Q_rtOffer s) : EntOK Try.prog T ⟨34, e_rtOffer s⟩ := by
  refine ⟨goes_of Try.func34 (by kernel_rfl) (c := bodyOf Try.f34) (by kernel_rfl), fun R ds K r h => ?_, fun R ds K => ?_⟩
  . simp only [e_rtOffer] at h
    split at h
    . obtain ⟨r0, r1, r2, r3, r4, r5, r6, r7, r8, r9, r10, r11, r12, r13, r14, r15, r16, r17, r18, r19, r20, h1, h2⟩ := bnd21_some h
      exact ⟨_, h2, hs _ _ _ _ _ _ _ _ _ _ _ _ _ _ _ _ _ _ _ _ _ _ _ _ _ _ _ _ _ _ _ _ _ _ _ _ _ _ _ _ _ _ h1⟩
    . cases h
  . simp only [e_rtOffer]
    split
    . rw [bnd21_b]; rfl
    . rfl
theorem p_rtOffer (N : Nat) : Q_rtOffer (s_rtOffer N) := fun x0 x1 x2 x3 x4 x5 x6 x7 x8 x9 x10 x11 x12 x13 x14 x15 x16 x17 x18 x19 x20 r0 r1 r2 r3 r4 r5 r6 r7 r8 r9 r10 r11 r12 r13 r14 r15 r16 r17 r18 r19 r20 h => pure_of (cx := cx_rtOffer N) (by kernel_rfl) (cxO_ok ⟨eo_roffer _ (p_roffer N), trivial⟩ trivial) Try.func34 (by kernel_rfl) (by kernel_rfl) (loopsOK_of (k := 0) (by kernel_rfl) trivial) (by rfl) (by rfl) (by rfl) (rf := r_rtFail) ((s_rtOffer_ok ..).trans h) (fun rs' m h => by
    unfold r_rtFail at h
    split at h
    . cases h; exact ⟨rfl, rfl⟩
    . cases h)
noncomputable def e_rtSend {R : Type} (s : Ty44) (ds : List D) (K : List D -> Option R) : Option R :=
  match ds with
  | [.agg [.v (.int .i64 x0) .no, .v (.int .i64 x1) .no, .v (.int .i64 x2) .no, .v (.int .i64 x3) .no, .v (.int .i64 x4) .no, .v (.bool x5) .no, .v (.int .i64 x6) .no, .v (.int .i64 x7) .no, .v (.int .i64 x8) .no, .v (.bool x9) .no, .v (.int .i64 x10) .no, .v (.bool x11) .no, .v (.bytes x12) .no, .v (.sl 27 x13) .no, .v (.bytes x14) .no, .v (.int .i64 x15) .no, .v (.int .i64 x16) .no, .v (.int .i64 x17) .no, .v (.bool x18) .no, .v (.int .i64 x19) .no], .v (.bytes x20) .no] => bnd21 (s x0 x1 x2 x3 x4 x5 x6 x7 x8 x9 x10 x11 x12 x13 x14 x15 x16 x17 x18 x19 x20) fun r0 r1 r2 r3 r4 r5 r6 r7 r8 r9 r10 r11 r12 r13 r14 r15 r16 r17 r18 r19 r20 => K [.agg [dI r0, dI r1, dI r2, dI r3, dI r4, dB r5, dI r6, dI r7, dI r8, dB r9, dI r10, dB r11, dY r12, .v (.sl 27 r13) .no, dY r14, dI r15, dI r16, dI r17, dB r18, dI r19], dY r20]
  | _ => none
noncomputable def s_rtSend (N : Nat) (x0 x1 x2 x3 x4 : Int) (x5 : Bool) (x6 x7 x8 : Int) (x9 : Bool) (x10 : Int) (x11 : Bool) (x12 : List UInt8) (x13 : List V) (x14 : List UInt8) (x15 x16 x17 : Int) (x18 : Bool) (x19 : Int) (x20 : List UInt8) : Option (Int × Int × Int × Int × Int × Bool × Int × Int × Int × Bool × Int × Bool × List UInt8 × List V × List UInt8 × Int × Int × Int × Bool × Int × List UInt8) := br (!decide (x15 = 0)) (some (x0, x1, x2, x3, x4, x5, x6, x7, x8, x9, x10, x11, x12, x13, x14, x15, x16, x17, x18, x19, [])) (bnd16 (s_rsend N x0 x1 x2 x3 x4 x5 x6 x7 x8 x9 x10 x11 x12 x13 [] x20) fun n0 n1 n2 n3 n4 b5 n6 n7 n8 b9 n10 b11 l12 l13 l14 l15 => some (n0, n1, n2, n3, n4, b5, n6, n7, n8, b9, n10, b11, l12, l13, l14, 11, x16, 0, false, x19, l15))
noncomputable def cx_rtSend (N : Nat) : Cx := cxO [⟨59, e_rsend (s_rsend N)⟩] []
theorem s_rtSend_ok (N : Nat) (x0 x1 x2 x3 x4 x5 x6 x7 x8 x9 x10 x11 x12 x13 x14 x15 x16 x17 x18 x19 x20 : _) : bodyK (cx_rtSend N) Try.f32 [g3a x0 x1 x2 x3 x4 x5 x6 x7 x8 x9 x10 x11 x12 x13 x14 x15 x16 x17 x18 x19, dY x20] [] r_rtFail = s_rtSend N x0 x1 x2 x3 x4 x5 x6 x7 x8 x9 x10 x11 x12 x13 x14 x15 x16 x17 x18 x19 x20 := by
  kernel_rfl
abbrev Q_rtSend (s : Ty44) : Prop := ∀ x0 x1 x2 x3 x4 x5 x6 x7 x8 x9 x10 x11 x12 x13 x14 x15 x16 x17 x18 x19 x20 r0 r1 r2 r3 r4 r5 r6 r7 r8 r9 r10 r11 r12 r13 r14 r15 r16 r17 r18 r19 r20, s x0 x1 x2 x3 x4 x5 x6 x7 x8 x9 x10 x11 x12 x13 x14 x15 x16 x17 x18 x19 x20 = some (r0, r1, r2, r3, r4, r5, r6, r7, r8, r9, r10, r11, r12, r13, r14, r15, r16, r17, r18, r19, r20) -> PureRet Try.prog T 32 [g3a x0 x1 x2 x3 x4 x5 x6 x7 x8 x9 x10 x11 x12 x13 x14 x15 x16 x17 x18 x19, dY x20] [g3a r0 r1 r2 r3 r4 r5 r6 r7 r8 r9 r10 r11 r12 r13 r14 r15 r16 r17 r18 r19, dY r20]
theorem eo_rtSend (s : Ty44) (hs : Q_rtSend s) : EntOK Try.prog T ⟨32, e_rtSend s⟩ := by
  refine ⟨goes_of Try.func32 (by kernel_rfl) (c := bodyOf Try.f32) (by kernel_rfl), fun R ds K r h => ?_, fun R ds K => ?_⟩
  . simp only [e_rtSend] at h
    split at h
    . obtain ⟨r0, r1, r2, r3, r4, r5, r6, r7, r8, r9, r10, r11, r12, r13, r14, r15, r16, r17, r18, r19, r20, h1, h2⟩ := bnd21_some h
      exact ⟨_, h2, hs _ _ _ _ _ _ _ _ _ _ _ _ _ _ _ _ _ _ _ _ _ _ _ _ _ _ _ _ _ _ _ _ _ _ _ _ _ _ _ _ _ _ h1⟩
    . cases h
  . simp only [e_rtSend]
    split
    . rw [bnd21_b]; rfl
    . rfl
theorem p_rtSend (N : Nat) : Q_rtSend (s_rtSend N) := fun x0 x1 x2 x3 x4 x5 x6 x7 x8 x9 x10 x11 x12 x13 x14 x15 x16 x17 x18 x19 x20 r0 r1 r2 r3 r4 r5 r6 r7 r8 r9 r10 r11 r12 r13 r14 r15 r16 r17 r18 r19 r20 h => pure_of (cx := cx_rtSend N) (by kernel_rfl) (cxO_ok ⟨eo_rsend _ (p_rsend N), trivial⟩ trivial) Try.func32 (by kernel_rfl) (by kernel_rfl) (loopsOK_of (k := 0) (by kernel_rfl) trivial) (by rfl) (by rfl) (by rfl) (rf := r_rtFail) ((s_rtSend_ok ..).trans h) (fun rs' m h => by
    unfold r_rtFail at h
    split at h
    . cases h; exact ⟨rfl, rfl⟩
    . cases h)
end Go.Proofs.Ytilfphdeacogmaa.En

/- Functions of the program in plain Lean, joined to the program by evaluation; printed by a program. -/
namespace Go.Proofs.Ytilfphdeacogmaa.En
open Go Go.Proofs
set_option maxRecDepth 100000
set_option maxHeartbeats 8000000
set_option linter.unusedVariables false
noncomputable def e_sound {R : Type} (s : List UInt8 -> Int -> Option (Bool)) (ds : List D) (K : List D -> Option R) : Option R :=
  match ds with
  | [.v (.bytes x0) .no, .v (.int .i64 x1) .no] => bnd1 (s x0 x1) fun r0 => K [dB r0]
  | _ => none
noncomputable def s_sound (N : Nat) (x0 : List UInt8) (x1 : Int) : Option (Bool) := bnd8 (s_rDecode6 N x0 x1) fun n0 n1 n2 b3 n4 b5 l6 n7 => br (decide ((x0.length : Int) = 0)) (some true) (some (decide (n7 = 0)))
noncomputable def cx_sound (N : Nat) : Cx := cxO [⟨61, e_rDecode6 (s_rDecode6 N)⟩] []
theorem s_sound_ok (N : Nat) (x0 x1 : _) : bodyK (cx_sound N) Try.f21 [dY x0, dI x1] [] r_valid = s_sound N x0 x1 := by
  kernel_rfl
abbrev Q_sound (s : List UInt8 -> Int -> Option (Bool)) : Prop := ∀ x0 x1 r0, s x0 x1 = some r0 -> PureRet Try.prog T 21 [dY x0, dI x1] [dB r0]
theorem eo_sound (s : List UInt8 -> Int -> Option (Bool)) (hs : Q_sound s) : EntOK Try.prog T ⟨21, e_sound s⟩ := by
  refine ⟨goes_of Try.func21 (by kernel_rfl) (c := bodyOf Try.f21) (by kernel_rfl), fun R ds K r h => ?_, fun R ds K => ?_⟩
  . simp only [e_sound] at h
    split at h
    . obtain ⟨r0, h1, h2⟩ := bnd1_some h
      exact ⟨_, h2, hs _ _ _ h1⟩
    . cases h
  . simp only [e_sound]
    split
    . rw [bnd1_b]; rfl
    . rfl
theorem p_sound (N : Nat) : Q_sound (s_sound N) := fun x0 x1 r0 h => pure_of (cx := cx_sound N) (by kernel_rfl) (cxO_ok ⟨eo_rDecode6 _ (p_rDecode6 N), trivial⟩ trivial) Try.func21 (by kernel_rfl) (by kernel_rfl) (loopsOK_of (k := 0) (by kernel_rfl) trivial) (by rfl) (by rfl) (by rfl) (rf := r_valid) ((s_sound_ok ..).trans h) (fun rs' m h => by
    unfold r_valid at h
    split at h
    . cases h; exact ⟨rfl, rfl⟩
    . cases h)
noncomputable def e_few {R : Type} (s : List V -> Option (Bool)) (ds : List D) (K : List D -> Option R) : Option R :=
  match ds with
  | [.v (.sl 38 x0) .no] => bnd1 (s x0) fun r0 => K [dB r0]
  | _ => none
noncomputable def F_few_4 {R : Type} (N : Nat) (vs0 : List V) (Lq : Int -> Option R) (K0 : Bool -> Option R) (K1 : Option R) (n1 : Int) : Option R := br (decide (n1 < (vs0.length : Int))) (br (decide (0 <= n1) && decide (n1 < (vs0.length : Int))) (at? vs0 n1.toNat fun x0 => x0.unAgg fun l1 => unCons l1 fun x2 l3 => V.unInt IntKind.i64 x2 fun n4 => unCons l3 fun x5 l6 => V.unInt IntKind.i64 x5 fun n7 => unCons l6 fun x8 l9 => x8.unBytes fun l10 => unNil l9 (br (decide (700 < (l10.length : Int))) (K0 false) (Lq (IntKind.i64.wrap (n1 + 1))))) none) K1
noncomputable def S_few_4 {R : Type} (N : Nat) (vs0 : List V) : Nat -> Int -> (Bool -> Option R) -> (Option R) -> Option R | 0, _, _, _ => none | t + 1, n1, K0, K1 => F_few_4 N vs0 (fun n1 => S_few_4 N vs0 t n1 K0 K1) K0 K1 n1
noncomputable def l_few_4 {R : Type} (N : Nat) (ds : List D) (m : Mem) (K : Ex -> List D -> Mem -> Option R) : Option R :=
  match ds, m with
  | [(.v (.sl 38 vs0) .no), (.v (.int .i64 n1) .no)], [[]] => S_few_4 N vs0 N n1 (fun a0 => K .ret [(.v (.bool a0) .no)] [[]]) (K (.exit 0) [.any] [[]])
  | _, _ => none
noncomputable def s_few (N : Nat) (x0 : List V) : Option (Bool) := br (decide (150 < (x0.length : Int))) (some false) (S_few_4 N x0 N 0 (fun b0 => some b0) (some true))
noncomputable def cx_few (N : Nat) : Cx := { T := T, isPure := tabP [], pureK := fun g ds K => tabK [] g ds K, memK := fun g dst ds m K => tabMK [] g dst ds m K, meth := tabM [], keep := fun r => match r with | 4 => [0, 3] | _ => [], keepX := fun r => match r with | 4 => [2] | _ => [], loopT := fun r ds m K => match r with | 4 => l_few_4 N ds m K | _ => none, jumps := 9 }
theorem F_few_4_ok {R : Type} (N : Nat) (vs0 : List V) (n1 : Int) (L : List D -> Mem -> Option R) (K : Ex -> List D -> Mem -> Option R) :
    roundK (fun st K => codeK (cx_few N) (loopN Try.f9 0) st K) 20 [0, 3] [2] L [(.v (.sl 38 vs0) .no), (dI n1)] [[]] K = F_few_4 N vs0 (fun n1 => L [(.v (.sl 38 vs0) .no), (dI n1)] [[]]) (fun a0 => K .ret [(dB a0)] [[]]) (K (.exit 0) [.any] [[]]) n1 := by
  kernel_rfl
theorem S_few_4_ok {R : Type} (N : Nat) (vs0 : List V) (K : Ex -> List D -> Mem -> Option R) : ∀ (t : Nat) (n1 : Int),
    loopK (fun st K => codeK (cx_few N) (loopN Try.f9 0) st K) 20 [0, 3] [2] t [(.v (.sl 38 vs0) .no), (dI n1)] [[]] K = S_few_4 N vs0 t n1 (fun a0 => K .ret [(dB a0)] [[]]) (K (.exit 0) [.any] [[]])
  | 0, n1 => rfl
  | t + 1, n1 => (F_few_4_ok N vs0 n1 _ K).trans (congrArg (fun L => F_few_4 N vs0 L (fun a0 => K .ret [(dB a0)] [[]]) (K (.exit 0) [.any] [[]]) n1) (funext fun n1 => S_few_4_ok N vs0 K t n1))
theorem s_few_ok (N : Nat) (x0 : _) : bodyK (cx_few N) Try.f9 [.v (.sl 38 x0) .no] [] r_valid = s_few N x0 := by
  kernel_rfl
abbrev Q_few (s : List V -> Option (Bool)) : Prop := ∀ x0 r0, s x0 = some r0 -> PureRet Try.prog T 9 [.v (.sl 38 x0) .no] [dB r0]
theorem eo_few (s : List V -> Option (Bool)) (hs : Q_few s) : EntOK Try.prog T ⟨9, e_few s⟩ := by
  refine ⟨goes_of Try.func9 (by kernel_rfl) (c := bodyOf Try.f9) (by kernel_rfl), fun R ds K r h => ?_, fun R ds K => ?_⟩
  . simp only [e_few] at h
    split at h
    . obtain ⟨r0, h1, h2⟩ := bnd1_some h
      exact ⟨_, h2, hs _ _ h1⟩
    . cases h
  . simp only [e_few]
    split
    . rw [bnd1_b]; rfl
    . rfl
theorem co_few (N : Nat) : CxOK Try.prog (cx_few N) :=
  cxOK_of2 (es := []) (me := []) (ms := []) T_ok trivial trivial trivial rfl (fun _ _ _ _ => rfl) (fun _ _ _ _ _ _ => rfl) rfl
theorem lk_few_4 (N : Nat) : LoopOK (cx_few N) 20 (loopN Try.f9 0) := by
  refine loopOK_of (rid := 4) (by kernel_rfl) rfl rfl fun R ds m K r h => ?_
  have h : l_few_4 N ds m K = some r := h
  unfold l_few_4 at h
  split at h
  . exact ⟨N, Eq.trans (S_few_4_ok ..) h⟩
  . cases h
theorem lo_few (N : Nat) : LoopsOK (cx_few N) Try.f9.ntmps (bodyOf Try.f9) :=
  loopsOK_of (k := 1) (by kernel_rfl) ⟨trivial, lk_few_4 N⟩
theorem p_few (N : Nat) : Q_few (s_few N) := fun x0 r0 h => pure_of (cx := cx_few N) (by kernel_rfl) (co_few N) Try.func9 (by kernel_rfl) (by kernel_rfl) (lo_few N) (by rfl) (by rfl) (by rfl) (rf := r_valid) ((s_few_ok ..).trans h) (fun rs' m h => by
    unfold r_valid at h
    split at h
    . cases h; exact ⟨rfl, rfl⟩
    . cases h)
end Go.Proofs.Ytilfphdeacogmaa.En

/- The printed functions, together. -/

/- Words for the plain laws: branches, numbers, bits, places in a list. No program in sight. -/
namespace Go.Proofs.Ytilfphdeacogmaa.En
open Go
set_option linter.unusedVariables false
section
variable {R α β γ δ : Type}
theorem br_t (x y : Option R) : br true x y = x := id rfl
theorem br_f (x y : Option R) : br false x y = y := id rfl
theorem br_dec (p : Prop) [Decidable p] (x y : Option R) : br (decide p) x y = if p then x else y := by
  by_cases h : p <;> simp [br, h]
theorem br_not (c : Bool) (x y : Option R) : br (!c) x y = br c y x := by cases c <;> rfl
theorem br_and (a b : Bool) (x y : Option R) : br (a && b) x y = br a (br b x y) y := by cases a <;> rfl
theorem bnd1_mk (a : α) (K : α -> Option R) : bnd1 (some a) K = K a := id rfl
theorem bnd2_mk (a : α) (b : β) (K : α -> β -> Option R) : bnd2 (some (a, b)) K = K a b := id rfl
theorem bnd3_mk (a : α) (b : β) (c : γ) (K : α -> β -> γ -> Option R) : bnd3 (some (a, b, c)) K = K a b c := id rfl
theorem bnd4_mk (a : α) (b : β) (c : γ) (d : δ) (K : α -> β -> γ -> δ -> Option R) : bnd4 (some (a, b, c, d)) K = K a b c d := id rfl
theorem bnd5_mk {ε : Type} (a : α) (b : β) (c : γ) (d : δ) (e : ε) (K : α -> β -> γ -> δ -> ε -> Option R) : bnd5 (some (a, b, c, d, e)) K = K a b c d e := id rfl
theorem at_of {xs : List α} {i : Nat} {x : α} (h : xs[i]? = some x) (K : α -> Option R) : at? xs i K = K x := by simp [at?, h]
theorem at_zero (x : α) (r : List α) (K : α -> Option R) : at? (x :: r) 0 K = K x := id rfl
theorem at_mid (pre : List α) (x : α) (suf : List α) (K : α -> Option R) : at? (pre ++ x :: suf) pre.length K = K x := at_of (by simp) K
theorem unInt_mk (k : IntKind) (n : Int) (K : Int -> Option R) : V.unInt k (.int k n) K = K n := by simp [V.unInt]
theorem unBytes_mk (s : List UInt8) (K : List UInt8 -> Option R) : V.unBytes (.bytes s) K = K s := id rfl
theorem unAgg_mk (s : List V) (K : List V -> Option R) : V.unAgg (.agg s) K = K s := id rfl
theorem unCons_mk (x : V) (r : List V) (K : V -> List V -> Option R) : unCons (x :: r) K = K x r := id rfl
theorem unNil_mk (K : Option R) : unNil [] K = K := id rfl
end
theorem w64 {n : Int} (h1 : -9223372036854775808 <= n) (h2 : n <= 9223372036854775807) : IntKind.i64.wrap n = n := by
  rw [IntKind.wrap_i64]; omega
theorem w64_u8 (u : UInt8) : IntKind.i64.wrap (u.toNat : Int) = u.toNat := by
  have := u.toNat_lt; exact w64 (by omega) (by omega)
theorem wu8 (n : Int) : IntKind.u8.wrap n = n % 256 := IntKind.wrap_u8 n
theorem ofNat_toNat (u : UInt8) : UInt8.ofNat u.toNat = u := UInt8.ofNat_toNat
end Go.Proofs.Ytilfphdeacogmaa.En

/- Chapter 08: the program's card does what the model does. -/
namespace Go.Proofs.Ytilfphdeacogmaa.En
open Go
set_option linter.unusedVariables false
def pcs (l : List (List UInt8)) : List V := l.map V.bytes
def sentB (s : Co) : List UInt8 := if s.has = true then s.sent.enc s.sum else []
def askB (c : Cd) : List UInt8 := if c.time = 0 then [] else [b8 c.time]
def outB (k : Int) (o : Option Bl) : List UInt8 := match o with | none => [] | some b => b.enc k
theorem pcs_pos (l : List (List UInt8)) : (0 < ((pcs l).length : Int)) ↔ l ≠ [] := by
  unfold pcs; rw [List.length_map]
  cases l with
  | nil => simp
  | cons a l => simp
theorem clone_eq {N : Nat} {l : List UInt8} (h : l.length <= 1000000) : s_clone N l = some l := by
  unfold s_clone; rw [br_dec, if_pos h]
theorem b8_eq {n : Int} (h0 : 0 <= n) (h : n <= 255) : UInt8.ofNat (IntKind.u8.wrap n).toNat = b8 n := by
  unfold b8; rw [wu8]; congr 2; omega
theorem w1 {n : Int} (h : n = 0 ∨ n = 1) : IntKind.i64.wrap (1 - n) = 1 - n := w64 (by omega) (by omega)
section
variable (N : Nat)
theorem split_loop {R : Type} (n : Nat) (hn : 1 <= n) (hn2 : n <= 254) (K0 : List V -> Option R) : ∀ (t : Nat) (b : List UInt8) (acc : List V) (u : Nat), b.length < t -> b.length <= u + n -> acc.length + b.length <= 1000000 ->
    S_oSplit_5 N (n : Int) t acc b K0 = K0 (acc ++ pcs (if b = [] then [] else cutF n u b))
  | 0, b, acc, u, h, _, _ => by omega
  | t + 1, b, acc, u, ht, hu, ha => by
    have e : S_oSplit_5 N (n : Int) (t + 1) acc b K0 = br (decide (0 < (b.length : Int))) (br (decide (0 <= min (n : Int) b.length) && decide (min (n : Int) b.length <= b.length)) (bnd1 (s_clone N (List.take (min (n : Int) b.length).toNat b)) fun l0 => br (decide ((acc.length + [V.bytes l0].length) * 24 <= 140737488355328)) (br (decide (0 <= min (n : Int) b.length) && decide (min (n : Int) b.length <= b.length)) (S_oSplit_5 N (n : Int) t (acc ++ [V.bytes l0]) (List.drop (min (n : Int) b.length).toNat b) K0) none) none) none) (K0 acc) := rfl
    rw [e, br_dec]
    by_cases hb : b = []
    . subst hb
      rw [if_neg (by simp), if_pos rfl]; simp [pcs]
    have hl : 0 < b.length := List.length_pos_iff.2 hb
    have hm : (min (n : Int) b.length).toNat = min n b.length := by omega
    rw [if_pos (by omega), if_neg hb, br_and, br_dec, if_pos (by omega), br_dec, if_pos (by omega), hm, clone_eq (by rw [List.length_take]; omega), bnd1_mk, br_dec, if_pos (by simp; omega), br_and, br_dec, if_pos (by omega), br_dec, if_pos (by omega)]
    by_cases hc : b.length <= n
    . rw [show min n b.length = b.length by omega, List.take_length, List.drop_length]
      rw [split_loop n hn hn2 K0 t [] _ 0 (by simp; omega) (by simp) (by simp; omega), if_pos rfl]
      cases u with
      | zero => simp [cutF, pcs]
      | succ u => unfold cutF; rw [if_pos hc]; simp [pcs]
    . obtain ⟨u, rfl⟩ : ∃ v, u = v + 1 := ⟨u - 1, by omega⟩
      rw [show min n b.length = n by omega, split_loop n hn hn2 K0 t (b.drop n) _ u (by rw [List.length_drop]; omega) (by rw [List.length_drop]; omega) (by rw [List.length_drop]; simp; omega)]
      rw [if_neg (by intro h; have := congrArg List.length h; rw [List.length_drop] at this; simp at this; omega)]
      conv => rhs; unfold cutF; rw [if_neg hc]
      simp [pcs]
theorem oSplit_eq {n : Int} (hn : 1 <= n /\ n <= 254) (b : List UInt8) (h1 : b.length < N) (h2 : b.length <= 1000000) : s_oSplit N b n = some (pcs (if b = [] then [] else cut n.toNat b), 0) := by
  unfold s_oSplit
  rw [br_dec, if_neg (by omega)]
  have := split_loop N n.toNat (by omega) (by omega) (fun l0 => some (l0, (0 : Int))) N b [] b.length h1 (by omega) (by simp; omega)
  rw [show ((n.toNat : Nat) : Int) = n by omega] at this
  rw [this]; rfl
def onC {α : Type} (c : Cd) (f : Int -> Int -> Int -> Int -> Int -> List UInt8 -> Int -> List V -> List UInt8 -> Int -> List UInt8 -> α) : α :=
  f c.s.sum c.s.own c.s.other c.s.expect c.s.next (sentB c.s) c.s.sent.seq (pcs c.s.pieces) c.s.inn c.state (askB c)
section
variable (x0 x1 x2 : Int) (x3 : Bool) (x4 : Int) (x5 : Bool) (x6 : List UInt8) (y0 y1 y2 y3 y4 : Int) (y5 : List UInt8) (y6 : Int) (y7 : List V) (y8 : List UInt8) (y9 : Int) (y10 : List UInt8)
theorem cEnc_eq : s_cEnc N x0 x1 x2 x3 x4 x5 x6 y0 y1 y2 y3 y4 y5 y6 y7 y8 y9 y10 = some (encL y0 x0 x1 x2 x3 x4 x5 x6) := rfl
theorem cReady_eq : s_cReady N x0 y0 y1 y2 y3 y4 y5 y6 y7 y8 y9 y10 = some (encL y0 0 1 y3 false x0 false []) := rfl
theorem cSpecial_eq : s_cSpecial N x0 x3 x6 y0 y1 y2 y3 y4 y5 y6 y7 y8 y9 y10 = some (encL y0 0 2 0 false x0 x3 x6) := rfl
theorem cMade_eq : s_cMade N y0 y1 y2 y3 y4 y5 y6 y7 y8 y9 y10 = some (decide (0 < y1)) := rfl
theorem cPiece_eq (p : List UInt8) (r : List (List UInt8)) (h : (encL y0 0 0 y4 (!r.isEmpty) 0 false p).length <= 1000000) :
    s_cPiece N y0 y1 y2 y3 y4 y5 y6 (pcs (p :: r)) y8 y9 y10 = some (encL y0 0 0 y4 (!r.isEmpty) 0 false p, IntKind.i64.wrap (1 - y4), encL y0 0 0 y4 (!r.isEmpty) 0 false p, y4, pcs r) := by
  have e : decide (0 < ((List.drop 1 (pcs (p :: r))).length : Int)) = !r.isEmpty := by cases r <;> simp [pcs] <;> omega
  unfold s_cPiece C_cPiece
  rw [e, br_dec, if_pos ((pcs_pos _).2 (by simp)), show pcs (p :: r) = V.bytes p :: pcs r from rfl, at_zero, unBytes_mk, br_dec, if_pos (by simp; omega), cEnc_eq, bnd1_mk, clone_eq h, bnd1_mk]
  rfl
end
theorem enc_small {k : Int} (hk : k = 0 ∨ k = 1) {b : Bl} (h : b.chk = 0) : (encL k b.nad b.kind b.seq b.more b.code b.ans b.inf).length <= 1000000 := by
  have := (enc_pos hk h).2
  unfold Bl.enc at this; omega
theorem piece_same (s : Co) : (pieceF s).1.other = s.other /\ (pieceF s).1.expect = s.expect /\ (pieceF s).1.inn = s.inn /\ (pieceF s).1.sum = s.sum /\ (pieceF s).1.own = s.own := by
  unfold pieceF; split <;> exact ⟨rfl, rfl, rfl, rfl, rfl⟩
theorem piece_cells {s : Co} (h : CoOK s) (hp : s.pieces ≠ []) (y5 : List UInt8) (y6 y9 : Int) (y10 : List UInt8) :
    s_cPiece N s.sum s.own s.other s.expect s.next y5 y6 (pcs s.pieces) s.inn y9 y10 = some ((pieceF s).2.enc s.sum, (pieceF s).1.next, sentB (pieceF s).1, (pieceF s).1.sent.seq, pcs (pieceF s).1.pieces) := by
  obtain ⟨sum, own, other, expect, next, has, sent, pieces, inn⟩ := s
  cases pieces with
  | nil => exact absurd rfl hp
  | cons p r =>
    have hb := bI_ok h (h.piece p (by simp)) r
    show s_cPiece N sum own other expect next y5 y6 (pcs (p :: r)) inn y9 y10 = _
    have hw : IntKind.i64.wrap (1 - next) = 1 - next := w1 h.next
    rw [cPiece_eq N sum own other expect next y5 y6 inn y9 y10 p r (enc_small h.sum hb), hw]
    rfl
theorem send_cells {s : Co} (h : CoOK s) (b : List UInt8) (h1 : b.length < N) (h2 : b.length <= 1000000) (y5 : List UInt8) (y6 y9 : Int) (y7 : List V) (y10 : List UInt8) :
    s_cSend N b s.sum s.own s.other s.expect s.next y5 y6 y7 s.inn y9 y10 = some ((sendF s b).2.enc s.sum, (sendF s b).1.next, sentB (sendF s b).1, (sendF s b).1.sent.seq, pcs (sendF s b).1.pieces) := by
  obtain ⟨a1, a2⟩ := cut_ok h.other b
  have hs : CoOK { s with pieces := cut s.other.toNat b } := ⟨h.sum, h.own, h.other, h.expect, h.next, h.sent, h.sseq, a1, h.inn⟩
  have hpc := piece_cells N hs a2 y5 y6 y9 y10
  unfold s_cSend C_cSend
  rw [oSplit_eq N h.other b h1 h2, bnd2_mk, br_dec]
  by_cases hb : b = []
  . subst hb
    rw [if_pos rfl]
    have e : cut s.other.toNat [] = [[]] := rfl
    simp only [e] at hpc
    rw [show [V.bytes []] = pcs [[]] from rfl, hpc]
    simp only [sendF, e]; rfl
  . rw [if_neg (by simpa using hb), if_neg hb, hpc]
    rfl
theorem cInfo_eq {c : Cd} (h : CdOK c) {x : Bl} (hx : x.inf.length <= 254) :
    onC c (s_cInfo N x.nad x.kind x.seq x.more x.code x.ans x.inf) = some (outB c.s.sum (cInfoF c x).2, (cInfoF c x).1.s.expect, (cInfoF c x).1.s.inn, (cInfoF c x).1.state) := by
  have hw := w1 h.s.expect
  have hi := h.inn
  obtain ⟨⟨sum, own, other, expect, next, has, sent, pieces, inn⟩, state, time⟩ := c
  simp only at hw hi
  have hl1 : (0 + x.inf.length) * 1 <= 140737488355328 := by omega
  have hl2 : (inn.length + x.inf.length) * 1 <= 140737488355328 := by omega
  have hp : (0 < ((pcs pieces).length : Int)) ↔ pieces ≠ [] := pcs_pos _
  unfold onC s_cInfo C_cInfo cInfoF cIn
  simp only [cReady_eq, bnd1_mk, br_dec, br_not, hw, hp, hl1, hl2, if_true]
  by_cases e1 : x.seq = expect
  . by_cases e2 : state = 4
    . have e4 : ¬ state = 1 := by omega
      by_cases e3 : pieces = []
      . by_cases e5 : 65552 < x.inf.length
        . omega
        . have e5' : ¬ (65552 < (x.inf.length : Int)) := by omega
          cases hm : x.more <;> simp [e1, e2, e3, e5, e5', outB, Bl.enc, bR, br]
      . simp [e1, e2, e3, outB, Bl.enc, bR]
    . by_cases e4 : state = 1
      . by_cases e5 : 65552 < inn.length + x.inf.length
        . have e5' : (65552 < (inn.length : Int) + (x.inf.length : Int)) := by omega
          simp [e1, e4, e5, e5', outB, Bl.enc, bR]
        . have e5' : ¬ (65552 < (inn.length : Int) + (x.inf.length : Int)) := by omega
          cases hm : x.more <;> simp [e1, e4, e5, e5', outB, Bl.enc, bR, br]
      . have e5 : ¬ 65552 < x.inf.length := by omega
        have e5' : ¬ (65552 < (x.inf.length : Int)) := by omega
        cases hm : x.more <;> simp [e1, e2, e4, e5, e5', outB, Bl.enc, bR, br]
  . simp [e1, outB, Bl.enc, bR]
theorem cAgain_eq {c : Cd} (h : CdOK c) (x : Bl) :
    onC c (s_cAgain N x.nad x.kind x.seq x.more x.code x.ans x.inf) = some (outB c.s.sum (cAgainF c x).2, (cAgainF c x).1.s.next, sentB (cAgainF c x).1.s, (cAgainF c x).1.s.sent.seq, pcs (cAgainF c x).1.s.pieces) := by
  have hp : (0 < ((pcs c.s.pieces).length : Int)) ↔ c.s.pieces ≠ [] := pcs_pos _
  unfold onC s_cAgain C_cAgain cAgainF
  simp only [cReady_eq, bnd1_mk, br_dec, br_not, hp]
  by_cases e2 : c.state = 4
  . have hh := h.has e2
    have hse : sentB c.s = c.s.sent.enc c.s.sum := by unfold sentB; rw [if_pos hh]
    have hcl : s_clone N (sentB c.s) = some (c.s.sent.enc c.s.sum) := by rw [hse]; exact clone_eq (enc_small h.s.sum h.s.sent)
    by_cases e1 : x.seq = c.s.sent.seq
    . rw [if_pos e2, if_pos e1, if_pos ⟨e2, e1⟩, hcl, bnd1_mk]; rfl
    . have n1 : ¬ (c.state = 4 /\ x.seq = c.s.sent.seq) := fun hh => e1 hh.2
      rw [if_pos e2, if_neg e1, if_pos e2]
      simp only [if_neg n1]
      by_cases e3 : c.s.pieces = []
      . have n2 : ¬ (c.state = 4 /\ c.s.pieces ≠ []) := fun hh => hh.2 e3
        simp only [if_neg n2]
        rw [if_neg (by simpa using e3)]; rfl
      . rw [if_pos e3, piece_cells N h.s e3, bnd5_mk]
        simp only [if_pos (show c.state = 4 /\ c.s.pieces ≠ [] from ⟨e2, e3⟩)]; rfl
  . have n1 : ¬ (c.state = 4 /\ x.seq = c.s.sent.seq) := fun hh => e2 hh.1
    have n2 : ¬ (c.state = 4 /\ c.s.pieces ≠ []) := fun hh => e2 hh.1
    rw [if_neg e2, if_neg e2]
    simp only [if_neg n1, if_neg n2]; rfl
theorem tsize_eq {x : Bl} (h : x.chk = 0) (h0 : x.kind ≠ 0) (h1 : x.kind ≠ 1) (hc : x.code = 1) : s_tsize N x.nad x.kind x.seq x.more x.code x.ans x.inf = some (inf0 x) /\ 0 < inf0 x := by
  obtain ⟨e1, e2, e3, e4, e5, e6⟩ := super_facts h h0 h1
  obtain ⟨f0, f1, f2, f3⟩ := e6 (.inl hc)
  have f3 := f3 hc
  obtain ⟨nad, kind, seq, more, code, ans, inf⟩ := x
  match inf, f0 with
  | [u], _ =>
    have e : inf0 ⟨nad, kind, seq, more, code, ans, [u]⟩ = u.toNat := rfl
    rw [e] at f1 f2 f3 ⊢
    refine ⟨?_, by omega⟩
    unfold s_tsize
    simp only [br_dec, br_not, at_zero, w64_u8]
    rw [if_pos (by simp), if_pos (by simp), if_neg (by omega), if_pos (by simp)]
theorem cSuper_eq {c : Cd} (h : CdOK c) {x : Bl} (hx : x.chk = 0) (h0 : x.kind ≠ 0) (h1 : x.kind ≠ 1) :
    onC c (s_cSuper N x.nad x.kind x.seq x.more x.code x.ans x.inf) = some (outB c.s.sum (cSuperF c x).2, (cSuperF c x).1.s.other, (cSuperF c x).1.s.expect, (cSuperF c x).1.s.next, sentB (cSuperF c x).1.s, pcs (cSuperF c x).1.s.pieces, (cSuperF c x).1.s.inn, (cSuperF c x).1.state) := by
  obtain ⟨e1, e2, e3, e4, e5, e6⟩ := super_facts hx h0 h1
  unfold onC s_cSuper C_cSuper cSuperF
  simp only [cReady_eq, cSpecial_eq, bnd1_mk, br_dec, br_not]
  by_cases ha : x.ans = true
  . have n1 : x.ans = true ∨ x.code = 3 := .inl ha
    rw [ha, br_t]
    simp only [true_or, if_true]; rfl
  have ha' : x.ans = false := by simpa using ha
  rw [ha', br_f]
  simp only [Bool.false_eq_true, false_or]
  rcases e4 with c0 | c1 | c2 | c3
  . simp only [c0, show ¬ ((0 : Int) = 3) by decide, show ¬ ((0 : Int) = 1) by decide, if_true, if_false]; rfl
  . obtain ⟨g1, g2⟩ := tsize_eq N hx h0 h1 c1
    rw [ha', c1] at g1
    simp only [c1, show ¬ ((1 : Int) = 3) by decide, show ¬ ((1 : Int) = 0) by decide, if_true, if_false, g1, bnd1_mk, g2]; rfl
  . simp only [c2, show ¬ ((2 : Int) = 3) by decide, show ¬ ((2 : Int) = 1) by decide, show ¬ ((2 : Int) = 0) by decide, if_true, if_false]; rfl
  . simp only [c3, show ¬ ((3 : Int) = 2) by decide, show ¬ ((3 : Int) = 1) by decide, show ¬ ((3 : Int) = 0) by decide, if_true, if_false]; rfl
theorem bDecode_eq {k : Int} {xs : List UInt8} (h : xs.length <= 900000) : s_bDecode N xs k = some (dNad k xs, dKind k xs, dSeq k xs, dMore k xs, dCode k xs, dAns k xs, dInf k xs, decE k xs) := by
  unfold s_bDecode; rw [br_dec, if_pos h]
theorem cDecode_eq {s : Co} (xs : List UInt8) (h : xs.length <= 900000) (y2 y3 y4 : Int) (y5 : List UInt8) (y6 : Int) (y7 : List V) (y8 : List UInt8) (y9 : Int) (y10 : List UInt8) :
    s_cDecode N xs s.sum s.own y2 y3 y4 y5 y6 y7 y8 y9 y10 = some ((rx s xs).1.nad, (rx s xs).1.kind, (rx s xs).1.seq, (rx s xs).1.more, (rx s xs).1.code, (rx s xs).1.ans, (rx s xs).1.inf, (rx s xs).2) := by
  unfold s_cDecode C_cDecode rx decBl
  rw [bDecode_eq N h, bnd8_mk]
  simp only [br_dec, br_not]
  by_cases h6 : decE s.sum xs = 6
  . simp only [h6, if_true]
  . simp only [h6, if_false]
    by_cases hz : decE s.sum xs = 0
    . simp only [hz, ne_eq, not_true_eq_false, false_or, if_true]
      by_cases hn : dNad s.sum xs = 0
      . by_cases hk : dKind s.sum xs = 0
        . by_cases hl : s.own < ((dInf s.sum xs).length : Int) <;> simp [hn, hk, hl]
        . simp [hn, hk]
      . simp [hn]
    . simp [hz]
theorem same_ask {x : Bl} (hx : x.chk = 0) (hn : x.nad = 0) {t code : Int} (hc : code = 1 ∨ code = 3) (h1 : 1 <= t) (h2 : t <= 255) :
    sameBl x.nad x.kind x.seq x.more x.code x.ans x.inf 0 2 0 false code true [b8 t] = decide (x.kind = 2 /\ x.code = code /\ x.ans = true /\ inf0 x = t) := by
  unfold sameBl
  refine decide_eq_decide.2 ⟨?_, ?_⟩
  . rintro ⟨_, a1, a2, a3, a4, a5, a6⟩
    refine ⟨a1, a4, a5, ?_⟩
    unfold inf0; rw [a6]; exact b8_toNat (by omega) h2
  . rintro ⟨a1, a2, a3, a4⟩
    obtain ⟨e1, e2, e3, e4, e5, e6⟩ := super_facts hx (by omega) (by omega)
    obtain ⟨f0, f1, f2, f3⟩ := e6 (by omega)
    refine ⟨hn, a1, e2, e3, a2, a3, ?_⟩
    obtain ⟨nad, kind, seq, more, code', ans, inf⟩ := x
    match inf, f0 with
    | [u], _ =>
      have e : (u.toNat : Int) = t := a4
      show [u] = [b8 t]
      congr 1
      have := b8_toNat (n := t) (by omega) h2
      exact UInt8.toNat_inj.1 (by omega)
theorem cReceive_eq {c : Cd} (h : CdOK c) (b : List UInt8) (hb : b.length <= 900000) :
    onC c (s_cReceive N b) = some (outB c.s.sum (cRecvF c (rx c.s b).1 (rx c.s b).2).2, (cRecvF c (rx c.s b).1 (rx c.s b).2).1.s.other, (cRecvF c (rx c.s b).1 (rx c.s b).2).1.s.expect, (cRecvF c (rx c.s b).1 (rx c.s b).2).1.s.next, sentB (cRecvF c (rx c.s b).1 (rx c.s b).2).1.s, (cRecvF c (rx c.s b).1 (rx c.s b).2).1.s.sent.seq,
      pcs (cRecvF c (rx c.s b).1 (rx c.s b).2).1.s.pieces, (cRecvF c (rx c.s b).1 (rx c.s b).2).1.s.inn, (cRecvF c (rx c.s b).1 (rx c.s b).2).1.state) := by
  obtain ⟨hr, hx⟩ := rx_range c.s b
  have ho := h.s.own
  unfold onC s_cReceive C_cReceive
  rw [cMade_eq, bnd1_mk, br_not, br_dec, if_pos (by omega), cDecode_eq N b hb, bnd8_mk]
  generalize (rx c.s b).1 = x at hx ⊢
  generalize (rx c.s b).2 = r at hr hx ⊢
  simp only [br_dec, br_not, cReady_eq, cSpecial_eq, bnd1_mk]
  unfold cRecvF
  by_cases s2 : c.state = 2
  . simp only [if_pos s2]; rfl
  simp only [if_neg s2]
  by_cases s3 : c.state = 3
  . simp only [if_pos s3]
    have ht := h.asks s3
    have ha : askB c = [b8 c.time] := by unfold askB; rw [if_neg (by omega)]
    by_cases r0 : r = 0
    . obtain ⟨x1, x2, x3⟩ := hx r0
      rw [if_pos r0, ha]
      show bnd1 (some (sameBl x.nad x.kind x.seq x.more x.code x.ans x.inf 0 2 0 false 3 true [b8 c.time])) _ = _
      rw [same_ask x1 x2 (.inr rfl) ht h.time.2, bnd1_mk, br_dec]
      by_cases hq : x.kind = 2 /\ x.code = 3 /\ x.ans = true /\ inf0 x = c.time
      . simp only [if_pos hq, r0, true_and]; rfl
      . simp only [if_neg hq, r0, true_and, s3]; rfl
    . have n : ¬ (r = 0 /\ x.kind = 2 /\ x.code = 3 /\ x.ans = true /\ inf0 x = c.time) := fun hh => r0 hh.1
      simp only [if_neg r0, if_neg n, ha, s3]; rfl
  simp only [if_neg s3]
  by_cases r0 : r = 0
  . obtain ⟨x1, x2, x3⟩ := hx r0
    simp only [r0, ne_eq, not_true_eq_false, if_true, if_false]
    by_cases k0 : x.kind = 0
    . have hi := cInfo_eq N h (kind_ok x1).2.2
      unfold onC at hi
      simp only [if_pos k0]
      rw [hi, bnd4_mk]
      unfold cInfoF
      repeat' split
      all_goals rfl
    . simp only [if_neg k0]
      by_cases k1 : x.kind = 1
      . have hi := cAgain_eq N h x
        unfold onC at hi
        simp only [if_pos k1]
        rw [hi, bnd5_mk]
        unfold cAgainF
        by_cases q1 : c.state = 4 /\ x.seq = c.s.sent.seq
        . simp only [if_pos q1]
        . simp only [if_neg q1]
          by_cases q2 : c.state = 4 /\ c.s.pieces ≠ []
          . simp only [if_pos q2, piece_same c.s]
          . simp only [if_neg q2]
      . have hi := cSuper_eq N h x1 k0 k1
        unfold onC at hi
        simp only [if_neg k1]
        rw [hi, bnd8_mk]
        unfold cSuperF
        repeat' split
        all_goals rfl
  . simp only [ne_eq, r0, not_false_eq_true, if_true, if_false]; rfl
end
end Go.Proofs.Ytilfphdeacogmaa.En

/- Chapter 08: the program's terminal does what the model does; the card's other calls. -/
namespace Go.Proofs.Ytilfphdeacogmaa.En
open Go
set_option linter.unusedVariables false
def offB (t : Tm) : List UInt8 := if t.offered = 0 then [] else [b8 t.offered]
def onT {α : Type} (t : Tm) (f : Int -> Int -> Int -> Int -> Int -> List UInt8 -> Int -> List V -> List UInt8 -> Int -> Int -> List UInt8 -> Bool -> Int -> α) : α :=
  f t.s.sum t.s.own t.s.other t.s.expect t.s.next (sentB t.s) t.s.sent.seq (pcs t.s.pieces) t.s.inn t.state t.fails (offB t) t.done t.cause
section
variable (N : Nat)
theorem cCommand_eq {c : Cd} (h : CdOK c) : onC c (s_cCommand N) = some (cCmdF c) := by
  have ho := h.s.own
  unfold onC s_cCommand C_cCommand cCmdF
  rw [cMade_eq, bnd1_mk, br_not, br_dec, if_pos (by omega), clone_eq (by have := h.inn; omega)]
  simp only [br_not, br_dec, bnd1_mk]
  by_cases s2 : c.state = 2
  . simp [s2]
  . by_cases s3 : c.state = 3 <;> simp [s2, s3]
theorem cReply_eq {c : Cd} (h : CdOK c) (b : List UInt8) (h1 : b.length < N) (h2 : b.length <= 1000000) :
    onC c (s_cReply N b) = some (outB c.s.sum (cReplyF c b).2, (cReplyF c b).1.s.next, sentB (cReplyF c b).1.s, (cReplyF c b).1.s.sent.seq, pcs (cReplyF c b).1.s.pieces, (cReplyF c b).1.state) := by
  have ho := h.s.own
  unfold onC s_cReply C_cReply cReplyF
  rw [cMade_eq, bnd1_mk, br_not, br_dec, if_pos (by omega), br_not, br_dec]
  by_cases s2 : c.state = 2
  . rw [if_pos s2, send_cells N h.s b h1 h2, bnd5_mk]
    simp only [s2, ne_eq, not_true_eq_false, if_false]; rfl
  . rw [if_neg s2]
    simp only [s2, ne_eq, not_false_eq_true, if_true]; rfl
section
variable (x0 x1 x2 : Int) (x3 : Bool) (x4 : Int) (x5 : Bool) (x6 : List UInt8) (y0 y1 y2 y3 y4 : Int) (y5 : List UInt8) (y6 : Int) (y7 : List V) (y8 : List UInt8) (y9 y10 : Int) (y11 : List UInt8) (y12 : Bool) (y13 : Int)
theorem tEnc_eq : s_tEnc N x0 x1 x2 x3 x4 x5 x6 y0 y1 y2 y3 y4 y5 y6 y7 y8 y9 y10 y11 y12 y13 = some (encL y0 x0 x1 x2 x3 x4 x5 x6) := rfl
theorem tReady_eq : s_tReady N x0 y0 y1 y2 y3 y4 y5 y6 y7 y8 y9 y10 y11 y12 y13 = some (encL y0 0 1 y3 false x0 false []) := rfl
theorem tSpecial_eq : s_tSpecial N x0 x3 x6 y0 y1 y2 y3 y4 y5 y6 y7 y8 y9 y10 y11 y12 y13 = some (encL y0 0 2 0 false x0 x3 x6) := rfl
theorem tMade_eq : s_tMade N y0 y1 y2 y3 y4 y5 y6 y7 y8 y9 y10 y11 y12 y13 = some (decide (0 < y1)) := rfl
theorem tFail_eq : s_tFail N x0 y0 y1 y2 y3 y4 y5 y6 y7 y8 y9 y10 y11 y12 y13 = some ([], 3, x0) := rfl
theorem tFailure_eq (hf : 0 <= y10 /\ y10 <= 11) : s_tFailure N x0 x6 y0 y1 y2 y3 y4 y5 y6 y7 y8 y9 y10 y11 y12 y13 = if 10 < y10 + 1 then some ([], 3, y10 + 1, x0) else some (x6, y9, y10 + 1, y13) := by
  unfold s_tFailure C_tFailure
  rw [w64 (by omega) (by omega), br_dec, tFail_eq]; rfl
theorem tPiece_eq (p : List UInt8) (r : List (List UInt8)) (h : (encL y0 0 0 y4 (!r.isEmpty) 0 false p).length <= 1000000) :
    s_tPiece N y0 y1 y2 y3 y4 y5 y6 (pcs (p :: r)) y8 y9 y10 y11 y12 y13 = some (encL y0 0 0 y4 (!r.isEmpty) 0 false p, IntKind.i64.wrap (1 - y4), encL y0 0 0 y4 (!r.isEmpty) 0 false p, y4, pcs r) := by
  have e : decide (0 < ((List.drop 1 (pcs (p :: r))).length : Int)) = !r.isEmpty := by cases r <;> simp [pcs] <;> omega
  unfold s_tPiece C_tPiece
  rw [e, br_dec, if_pos ((pcs_pos _).2 (by simp)), show pcs (p :: r) = V.bytes p :: pcs r from rfl, at_zero, unBytes_mk, br_dec, if_pos (by simp; omega), tEnc_eq, bnd1_mk, clone_eq h, bnd1_mk]
  rfl
end
theorem tpiece_cells {s : Co} (h : CoOK s) (hp : s.pieces ≠ []) (y5 : List UInt8) (y6 y9 y10 : Int) (y11 : List UInt8) (y12 : Bool) (y13 : Int) :
    s_tPiece N s.sum s.own s.other s.expect s.next y5 y6 (pcs s.pieces) s.inn y9 y10 y11 y12 y13 = some ((pieceF s).2.enc s.sum, (pieceF s).1.next, sentB (pieceF s).1, (pieceF s).1.sent.seq, pcs (pieceF s).1.pieces) := by
  obtain ⟨sum, own, other, expect, next, has, sent, pieces, inn⟩ := s
  cases pieces with
  | nil => exact absurd rfl hp
  | cons p r =>
    have hb := bI_ok h (h.piece p (by simp)) r
    show s_tPiece N sum own other expect next y5 y6 (pcs (p :: r)) inn y9 y10 y11 y12 y13 = _
    have hw : IntKind.i64.wrap (1 - next) = 1 - next := w1 h.next
    rw [tPiece_eq N sum own other expect next y5 y6 inn y9 y10 y11 y12 y13 p r (enc_small h.sum hb), hw]
    rfl
theorem tsend_cells {s : Co} (h : CoOK s) (b : List UInt8) (h1 : b.length < N) (h2 : b.length <= 1000000) (y5 : List UInt8) (y6 y9 : Int) (y7 : List V) (y10 : Int) (y11 : List UInt8) (y12 : Bool) (y13 : Int) :
    s_tSendC N b s.sum s.own s.other s.expect s.next y5 y6 y7 s.inn y9 y10 y11 y12 y13 = some ((sendF s b).2.enc s.sum, (sendF s b).1.next, sentB (sendF s b).1, (sendF s b).1.sent.seq, pcs (sendF s b).1.pieces) := by
  obtain ⟨a1, a2⟩ := cut_ok h.other b
  have hs : CoOK { s with pieces := cut s.other.toNat b } := ⟨h.sum, h.own, h.other, h.expect, h.next, h.sent, h.sseq, a1, h.inn⟩
  have hpc := tpiece_cells N hs a2 y5 y6 y9 y10 y11 y12 y13
  unfold s_tSendC C_tSendC
  rw [oSplit_eq N h.other b h1 h2, bnd2_mk, br_dec]
  by_cases hb : b = []
  . subst hb
    rw [if_pos rfl]
    have e : cut s.other.toNat [] = [[]] := rfl
    simp only [e] at hpc
    rw [show [V.bytes []] = pcs [[]] from rfl, hpc]
    simp only [sendF, e]; rfl
  . rw [if_neg (by simpa using hb), if_neg hb, hpc]
    rfl
theorem fail_same (t : Tm) (e : Int) (b : Bl) : (tFailureF t e b).1.s = t.s /\ (tFailureF t e b).1.done = t.done /\ (tFailureF t e b).1.offered = t.offered /\ (tFailureF t e b).1.fails = t.fails + 1 := by
  unfold tFailureF; split <;> exact ⟨rfl, rfl, rfl, rfl⟩
theorem failure_cells {t : Tm} (h : TmOK t) (e : Int) (b : Bl) : onT t (s_tFailure N e (b.enc t.s.sum)) = some (outB t.s.sum (tFailureF t e b).2, (tFailureF t e b).1.state, (tFailureF t e b).1.fails, (tFailureF t e b).1.cause) := by
  unfold onT
  rw [tFailure_eq N _ _ _ _ _ _ _ _ _ _ _ _ _ _ _ _ h.fails]
  unfold tFailureF
  split <;> rfl
theorem tInfo_eq {t : Tm} (h : TmOK t) (h3 : t.state ≠ 3) {x : Bl} (hx : x.inf.length <= 254) :
    onT t (s_tInfo N x.nad x.kind x.seq x.more x.code x.ans x.inf) = some (outB t.s.sum (tInfoF t x).2, (tInfoF t x).1.s.expect, (tInfoF t x).1.s.inn, (tInfoF t x).1.state, (tInfoF t x).1.fails, (tInfoF t x).1.done, (tInfoF t x).1.cause) := by
  have hw := w1 h.s.expect
  have hi := h.inn h3
  have hf := failure_cells N h 28 (bR t.s 2)
  obtain ⟨q1, q2, q3, q4⟩ := fail_same t 28 (bR t.s 2)
  have hl2 : (t.s.inn.length + x.inf.length) * 1 <= 140737488355328 := by omega
  have hp : (0 < ((pcs t.s.pieces).length : Int)) ↔ t.s.pieces ≠ [] := pcs_pos _
  have hr : encL t.s.sum 0 1 t.s.expect false 2 false [] = (bR t.s 2).enc t.s.sum := rfl
  unfold onT at hf ⊢
  unfold s_tInfo C_tInfo tInfoF
  simp only [tReady_eq, tFail_eq, bnd1_mk, bnd3_mk, br_dec, br_not, hw, hp, hl2, if_true, hr, hf, bnd4_mk]
  by_cases e1 : x.seq = t.s.expect
  . by_cases e3 : t.s.pieces = []
    . have n1 : ¬ (x.seq ≠ t.s.expect ∨ t.s.pieces ≠ []) := by rintro (hh | hh) <;> contradiction
      simp only [if_neg n1]
      rw [if_pos e1, if_neg (not_not_intro e3)]
      by_cases e5 : 65538 < (t.s.inn ++ x.inf).length
      . have e5' : (65538 < (((t.s.inn ++ x.inf).length : Nat) : Int)) := by omega
        simp only [if_pos e5, if_pos e5']; rfl
      . have e5' : ¬ (65538 < (((t.s.inn ++ x.inf).length : Nat) : Int)) := by omega
        simp only [if_neg e5, if_neg e5']
        cases hm : x.more <;> simp only [br_t, br_f, if_true, Bool.false_eq_true, if_false] <;> rfl
    . have n1 : (x.seq ≠ t.s.expect ∨ t.s.pieces ≠ []) := .inr e3
      simp only [if_pos n1, q1, q2]
      rw [if_pos e1, if_pos e3]
  . have n1 : (x.seq ≠ t.s.expect ∨ t.s.pieces ≠ []) := .inl e1
    simp only [if_pos n1, if_neg e1, q1, q2]
theorem tAgain_eq {t : Tm} (h : TmOK t) (h2 : t.state = 2) (x : Bl) :
    onT t (s_tAgain N x.nad x.kind x.seq x.more x.code x.ans x.inf) = some (outB t.s.sum (tAgainF t x).2, (tAgainF t x).1.s.next, sentB (tAgainF t x).1.s, (tAgainF t x).1.s.sent.seq, pcs (tAgainF t x).1.s.pieces, (tAgainF t x).1.state, (tAgainF t x).1.fails, (tAgainF t x).1.cause) := by
  have hp : (0 < ((pcs t.s.pieces).length : Int)) ↔ t.s.pieces ≠ [] := pcs_pos _
  have hse : sentB t.s = t.s.sent.enc t.s.sum := by unfold sentB; rw [if_pos (h.has h2)]
  have hcl : s_clone N (sentB t.s) = some (t.s.sent.enc t.s.sum) := by rw [hse]; exact clone_eq (enc_small h.s.sum h.s.sent)
  have hr : encL t.s.sum 0 1 t.s.expect false 0 false [] = (bR t.s 0).enc t.s.sum := rfl
  have hf := failure_cells N h 28 (bR t.s 0)
  have hf2 := failure_cells N h 28 t.s.sent
  obtain ⟨q1, q2, q3, q4⟩ := fail_same t 28 (bR t.s 0)
  obtain ⟨p1, p2, p3, p4⟩ := fail_same t 28 t.s.sent
  unfold onT at hf hf2 ⊢
  unfold s_tAgain C_tAgain tAgainF
  simp only [tReady_eq, bnd1_mk, br_dec, br_not, hp, hcl, hr, hf, hf2, bnd4_mk]
  by_cases e1 : x.seq = t.s.sent.seq
  . simp only [if_pos e1, p1]
  . simp only [if_neg e1]
    by_cases e3 : t.s.pieces = []
    . simp only [e3, ne_eq, not_true_eq_false, if_false, q1]
    . rw [tpiece_cells N h.s e3]
      simp only [e3, ne_eq, not_false_eq_true, if_true, bnd5_mk]; rfl
theorem tSuper_eq {t : Tm} (h : TmOK t) {x : Bl} (hx : x.chk = 0) (h0 : x.kind ≠ 0) (h1 : x.kind ≠ 1) :
    onT t (s_tSuper N x.nad x.kind x.seq x.more x.code x.ans x.inf) = some (outB t.s.sum (tSuperF t x).2, (tSuperF t x).1.s.other, (tSuperF t x).1.state, (tSuperF t x).1.fails, (tSuperF t x).1.cause) := by
  obtain ⟨e1, e2, e3, e4, e5, e6⟩ := super_facts hx h0 h1
  have hr : encL t.s.sum 0 1 t.s.expect false 2 false [] = (bR t.s 2).enc t.s.sum := rfl
  have hf := failure_cells N h 28 (bR t.s 2)
  obtain ⟨q1, q2, q3, q4⟩ := fail_same t 28 (bR t.s 2)
  unfold onT at hf ⊢
  unfold s_tSuper C_tSuper tSuperF
  simp only [tReady_eq, tSpecial_eq, tFail_eq, bnd1_mk, bnd3_mk, br_dec, br_not, hr, hf, bnd4_mk]
  by_cases ha : x.ans = true
  . have n1 : x.ans = true ∨ x.code = 0 := .inl ha
    simp only [ha, br_t, true_or, if_true, q1]
  have ha' : x.ans = false := by simpa using ha
  simp only [ha', br_f, Bool.false_eq_true, false_or]
  rcases e4 with c0 | c1 | c2 | c3
  . simp only [c0, show ¬ ((0 : Int) = 3) by decide, show ¬ ((0 : Int) = 1) by decide, show ¬ ((0 : Int) = 2) by decide, if_true, if_false, q1]
  . obtain ⟨g1, g2⟩ := tsize_eq N hx h0 h1 c1
    rw [ha', c1] at g1
    simp only [c1, show ¬ ((1 : Int) = 3) by decide, show ¬ ((1 : Int) = 0) by decide, show ¬ ((1 : Int) = 2) by decide, if_true, if_false, g1, bnd1_mk, g2]; rfl
  . simp only [c2, show ¬ ((2 : Int) = 0) by decide, if_true, if_false]; rfl
  . simp only [c3, show ¬ ((3 : Int) = 2) by decide, show ¬ ((3 : Int) = 1) by decide, show ¬ ((3 : Int) = 0) by decide, if_true, if_false]; rfl
theorem tDecode_eq {s : Co} (xs : List UInt8) (h : xs.length <= 900000) (y2 y3 y4 : Int) (y5 : List UInt8) (y6 : Int) (y7 : List V) (y8 : List UInt8) (y9 y10 : Int) (y11 : List UInt8) (y12 : Bool) (y13 : Int) :
    s_tDecode N xs s.sum s.own y2 y3 y4 y5 y6 y7 y8 y9 y10 y11 y12 y13 = some ((rx s xs).1.nad, (rx s xs).1.kind, (rx s xs).1.seq, (rx s xs).1.more, (rx s xs).1.code, (rx s xs).1.ans, (rx s xs).1.inf, (rx s xs).2) :=
  (show s_tDecode N xs s.sum s.own y2 y3 y4 y5 y6 y7 y8 y9 y10 y11 y12 y13 = s_cDecode N xs s.sum s.own y2 y3 y4 y5 y6 y7 y8 y9 y11 from rfl).trans (cDecode_eq N xs h y2 y3 y4 y5 y6 y7 y8 y9 y11)
theorem tReceive_eq {t : Tm} (h : TmOK t) (b : List UInt8) (hb : b.length <= 900000) :
    onT t (s_tReceive N b) = some (outB t.s.sum (tRecvF t (rx t.s b).1 (rx t.s b).2).2, (tRecvF t (rx t.s b).1 (rx t.s b).2).1.s.own, (tRecvF t (rx t.s b).1 (rx t.s b).2).1.s.other, (tRecvF t (rx t.s b).1 (rx t.s b).2).1.s.expect, (tRecvF t (rx t.s b).1 (rx t.s b).2).1.s.next,
      sentB (tRecvF t (rx t.s b).1 (rx t.s b).2).1.s, (tRecvF t (rx t.s b).1 (rx t.s b).2).1.s.sent.seq, pcs (tRecvF t (rx t.s b).1 (rx t.s b).2).1.s.pieces, (tRecvF t (rx t.s b).1 (rx t.s b).2).1.s.inn, (tRecvF t (rx t.s b).1 (rx t.s b).2).1.state, (tRecvF t (rx t.s b).1 (rx t.s b).2).1.fails,
      (tRecvF t (rx t.s b).1 (rx t.s b).2).1.done, (tRecvF t (rx t.s b).1 (rx t.s b).2).1.cause) := by
  obtain ⟨hr, hx⟩ := rx_range t.s b
  have ho := h.s.own
  have hff := fun e b => failure_cells N h e b
  unfold onT at hff ⊢
  unfold s_tReceive C_tReceive
  rw [tMade_eq, bnd1_mk, br_not, br_dec, if_pos (by omega), tDecode_eq N b hb, bnd8_mk]
  generalize (rx t.s b).1 = x at hx ⊢
  generalize (rx t.s b).2 = r at hr hx ⊢
  have hrr : encL t.s.sum 0 1 t.s.expect false r false [] = (bR t.s r).enc t.s.sum := rfl
  simp only [br_dec, br_not, tReady_eq, tSpecial_eq, bnd1_mk, hrr, hff, bnd4_mk]
  unfold tRecvF
  by_cases s0 : t.state = 0
  . simp only [if_pos s0, if_pos (show t.state = 0 ∨ t.state = 3 from .inl s0)]; rfl
  by_cases s3 : t.state = 3
  . simp only [if_neg s0, if_pos s3, if_pos (show t.state = 0 ∨ t.state = 3 from .inr s3)]; rfl
  simp only [if_neg s0, if_neg s3, if_neg (show ¬ (t.state = 0 ∨ t.state = 3) by rintro (hh | hh) <;> contradiction)]
  by_cases s1 : t.state = 1
  . have ht := h.offers s1
    have hof := h.offered
    have ha : offB t = [b8 t.offered] := by unfold offB; rw [if_neg (by omega)]
    have hsp : encL t.s.sum 0 2 0 false 1 false (offB t) = (bS 1 false [b8 t.offered]).enc t.s.sum := by rw [ha]; rfl
    obtain ⟨p1, p2, p3, p4⟩ := fail_same t 28 (bS 1 false [b8 t.offered])
    simp only [if_pos s1, hsp, hff, bnd4_mk]
    by_cases r0 : r = 0
    . obtain ⟨x1, x2, x3⟩ := hx r0
      rw [if_pos r0, ha]
      show bnd1 (some (sameBl x.nad x.kind x.seq x.more x.code x.ans x.inf 0 2 0 false 1 true [b8 t.offered])) _ = _
      rw [same_ask x1 x2 (.inl rfl) ht (by omega), bnd1_mk, br_dec]
      by_cases hq : x.kind = 2 /\ x.code = 1 /\ x.ans = true /\ inf0 x = t.offered
      . simp only [if_pos hq, r0, true_and, at_zero, w64_u8, b8_toNat (show 0 <= t.offered by omega) (show t.offered <= 255 by omega)]
        rw [if_pos (by simp)]; rfl
      . simp only [if_neg hq, r0, true_and, p1, p2]
    . have n : ¬ (r = 0 /\ x.kind = 2 /\ x.code = 1 /\ x.ans = true /\ inf0 x = t.offered) := fun hh => r0 hh.1
      simp only [if_neg r0, if_neg n, p1, p2]
  simp only [if_neg s1]
  have h2 : t.state = 2 := by have := h.state; omega
  by_cases r0 : r = 0
  . obtain ⟨x1, x2, x3⟩ := hx r0
    simp only [r0, ne_eq, not_true_eq_false, if_true, if_false]
    by_cases k0 : x.kind = 0
    . have hi := tInfo_eq N h s3 (kind_ok x1).2.2
      unfold onT at hi
      simp only [if_pos k0]
      rw [hi, bnd7_mk]
      unfold tInfoF
      obtain ⟨p1, p2, p3, p4⟩ := fail_same t 28 (bR t.s 2)
      by_cases q1 : x.seq ≠ t.s.expect ∨ t.s.pieces ≠ []
      . simp only [if_pos q1, p1]
      . simp only [if_neg q1]
        repeat' split
        all_goals rfl
    . simp only [if_neg k0]
      by_cases k1 : x.kind = 1
      . have hi := tAgain_eq N h h2 x
        unfold onT at hi
        simp only [if_pos k1]
        rw [hi, bnd8_mk]
        unfold tAgainF
        obtain ⟨p1, p2, p3, p4⟩ := fail_same t 28 (bR t.s 0)
        obtain ⟨o1, o2, o3, o4⟩ := fail_same t 28 t.s.sent
        by_cases q1 : x.seq = t.s.sent.seq
        . simp only [if_pos q1, o1, o2]
        . simp only [if_neg q1]
          by_cases q2 : t.s.pieces ≠ []
          . simp only [if_pos q2, piece_same t.s]
          . simp only [if_neg q2, p1, p2]
      . have hi := tSuper_eq N h x1 k0 k1
        unfold onT at hi
        simp only [if_neg k1]
        rw [hi, bnd5_mk]
        unfold tSuperF
        obtain ⟨p1, p2, p3, p4⟩ := fail_same t 28 (bR t.s 2)
        by_cases q1 : x.ans = true ∨ x.code = 0
        . simp only [if_pos q1, p1, p2]
        . simp only [if_neg q1]
          repeat' split
          all_goals rfl
  . obtain ⟨p1, p2, p3, p4⟩ := fail_same t 28 (bR t.s r)
    simp only [ne_eq, r0, not_false_eq_true, if_true, if_false, p1, p2]
theorem tTime_eq {t : Tm} (h : TmOK t) : onT t (s_tTimeout N) = some (outB t.s.sum (tTimeF t).2, (tTimeF t).1.state, (tTimeF t).1.fails, (tTimeF t).1.cause) := by
  have ho := h.s.own
  have hff := fun e b => failure_cells N h e b
  unfold onT at hff ⊢
  unfold s_tTimeout C_tTimeout tTimeF
  have hrr : encL t.s.sum 0 1 t.s.expect false 2 false [] = (bR t.s 2).enc t.s.sum := rfl
  rw [tMade_eq, bnd1_mk, br_not, br_dec, if_pos (by omega)]
  simp only [br_dec, tReady_eq, tSpecial_eq, bnd1_mk, hrr, hff, bnd4_mk]
  by_cases s1 : t.state = 1
  . have ht := h.offers s1
    have ha : offB t = [b8 t.offered] := by unfold offB; rw [if_neg (by omega)]
    have hsp : encL t.s.sum 0 2 0 false 1 false (offB t) = (bS 1 false [b8 t.offered]).enc t.s.sum := by rw [ha]; rfl
    simp only [if_pos s1, hsp, hff, bnd4_mk]
  . by_cases s2 : t.state = 2
    . simp only [if_neg s1, if_pos s2]
    . simp only [if_neg s1, if_neg s2]; rfl
theorem tResp_eq {t : Tm} (h : TmOK t) : onT t (s_tResponse N) = some (tRespF t) := by
  have ho := h.s.own
  unfold onT s_tResponse C_tResponse tRespF
  rw [tMade_eq, bnd1_mk, br_not, br_dec, if_pos (by omega), clone_eq (by have := h.s.inn; omega), bnd1_mk]
  cases t.done <;> rfl
theorem tOffer_eq {t : Tm} (h : TmOK t) (n : Int) : onT t (s_tOffer N n) = some (outB t.s.sum (tOfferF t n).2, (tOfferF t n).1.state, (tOfferF t n).1.fails, offB (tOfferF t n).1) := by
  have ho := h.s.own
  unfold onT s_tOffer C_tOffer tOfferF
  rw [tMade_eq, bnd1_mk, br_not, br_dec, if_pos (by omega), br_not, br_dec]
  by_cases s0 : t.state = 0
  . rw [if_pos s0]
    simp only [br_dec, s0, ne_eq, not_true_eq_false, false_or]
    by_cases h1 : n < 1
    . simp only [h1, true_or, if_true, s0]; rfl
    . by_cases h2 : 254 < n
      . simp only [h1, h2, or_true, if_true, if_false, s0]; rfl
      . simp only [h1, h2, or_self, if_false, tSpecial_eq, bnd1_mk]
        rw [b8_eq (by omega) (by omega)]
        have : offB { t with state := 1, offered := n, fails := 0 } = [b8 n] := by unfold offB; rw [if_neg (by simp only; omega)]
        rw [this]; rfl
  . rw [if_neg s0]
    simp only [s0, ne_eq, not_false_eq_true, true_or, if_true]; rfl
theorem tSend_eq {t : Tm} (h : TmOK t) (b : List UInt8) (h1 : b.length < N) (h2 : b.length <= 1000000) :
    onT t (s_tSend N b) = some (outB t.s.sum (tSendF t b).2, (tSendF t b).1.s.next, sentB (tSendF t b).1.s, (tSendF t b).1.s.sent.seq, pcs (tSendF t b).1.s.pieces, (tSendF t b).1.s.inn, (tSendF t b).1.state, (tSendF t b).1.fails, (tSendF t b).1.done) := by
  have ho := h.s.own
  have hs : CoOK { t.s with inn := [] } := ⟨h.s.sum, h.s.own, h.s.other, h.s.expect, h.s.next, h.s.sent, h.s.sseq, h.s.piece, by simp⟩
  have hsc := fun y5 y6 y9 y7 y10 y11 y12 y13 => tsend_cells N hs b h1 h2 y5 y6 y9 y7 y10 y11 y12 y13
  have hin := (send_ok hs b).2.2.2.2
  unfold onT s_tSend C_tSend tSendF
  rw [tMade_eq, bnd1_mk, br_not, br_dec, if_pos (by omega), br_not, br_dec]
  by_cases s0 : t.state = 0
  . rw [if_pos s0, hsc, bnd5_mk]
    simp only [s0, ne_eq, not_true_eq_false, if_false, hin]; rfl
  . rw [if_neg s0]
    simp only [s0, ne_eq, not_false_eq_true, if_true]; rfl
end
end Go.Proofs.Ytilfphdeacogmaa.En

/- Chapter 08: the reference does what the model does. -/
namespace Go.Proofs.Ytilfphdeacogmaa.En
open Go
set_option linter.unusedVariables false
def onS {α : Type} (s : Co) (f : Int -> Int -> Int -> Int -> Int -> Bool -> Int -> Int -> Int -> Bool -> Int -> Bool -> List UInt8 -> List V -> List UInt8 -> α) : α := f s.sum s.own s.other s.expect s.next s.has s.sent.nad s.sent.kind s.sent.seq s.sent.more s.sent.code s.sent.ans s.sent.inf (pcs s.pieces) s.inn
def tS (s : Co) (o : List UInt8) : Int × Int × Int × Int × Int × Bool × Int × Int × Int × Bool × Int × Bool × List UInt8 × List V × List UInt8 × List UInt8 := (s.sum, s.own, s.other, s.expect, s.next, s.has, s.sent.nad, s.sent.kind, s.sent.seq, s.sent.more, s.sent.code, s.sent.ans, s.sent.inf, pcs s.pieces, s.inn, o)
def stR (n : Int) : Int := if n = 0 then 0 else n + 9
def tT (t : Tm) (o : List UInt8) : Int × Int × Int × Int × Int × Bool × Int × Int × Int × Bool × Int × Bool × List UInt8 × List V × List UInt8 × Int × Int × Int × Bool × Int × List UInt8 := (t.s.sum, t.s.own, t.s.other, t.s.expect, t.s.next, t.s.has, t.s.sent.nad, t.s.sent.kind, t.s.sent.seq, t.s.sent.more, t.s.sent.code, t.s.sent.ans, t.s.sent.inf, pcs t.s.pieces, t.s.inn, stR t.state, t.offered, t.fails, t.done, t.cause, o)
section
variable (N : Nat)
section
variable (x0 x1 x2 x3 x4 : Int) (x5 : Bool) (x6 x7 x8 : Int) (x9 : Bool) (x10 : Int) (x11 : Bool) (x12 : List UInt8) (x13 : List V) (x14 : List UInt8) (b0 b1 b2 : Int) (b3 : Bool) (b4 : Int) (b5 : Bool) (b6 : List UInt8) (k k2 k3 k5 : Int) (k4 : Bool)
theorem rput_eq : s_rput N x0 x1 x2 x3 x4 x5 x6 x7 x8 x9 x10 x11 x12 x13 x14 b0 b1 b2 b3 b4 b5 b6 = some (encL x0 b0 b1 b2 b3 b4 b5 b6) := rfl
theorem rready_eq : s_rready N x0 x1 x2 x3 x4 x5 x6 x7 x8 x9 x10 x11 x12 x13 x14 k = some (encL x0 0 1 x3 false k false []) := rfl
theorem ranswer_eq : s_ranswer N x0 x1 x2 x3 x4 x5 x6 x7 x8 x9 x10 x11 x12 x13 x14 b0 b1 b2 b3 b4 b5 b6 = some (encL x0 0 2 0 false b4 true b6) := rfl
theorem roffer_eq : s_roffer N x0 x1 x2 x3 x4 x5 x6 x7 x8 x9 x10 x11 x12 x13 x14 k k2 k3 k4 k5 = some (encL x0 0 2 0 false 1 false [UInt8.ofNat (IntKind.u8.wrap k2).toNat]) := rfl
theorem rtFail_eq (e : Int) : s_rtFail N x0 x1 x2 x3 x4 x5 x6 x7 x8 x9 x10 x11 x12 x13 x14 k k2 k3 k4 k5 e = some (x0, x1, x2, x3, x4, x5, x6, x7, x8, x9, x10, x11, x12, x13, x14, 12, k2, k3, k4, e, []) := rfl
theorem rtFailure_eq (hf : 0 <= k3 /\ k3 <= 11) (e : Int) : s_rtFailure N x0 x1 x2 x3 x4 x5 x6 x7 x8 x9 x10 x11 x12 x13 x14 k k2 k3 k4 k5 e b6 = if 10 < k3 + 1 then some (x0, x1, x2, x3, x4, x5, x6, x7, x8, x9, x10, x11, x12, x13, x14, 12, k2, k3 + 1, k4, e, []) else some (x0, x1, x2, x3, x4, x5, x6, x7, x8, x9, x10, x11, x12, x13, x14, k, k2, k3 + 1, k4, k5, b6) := by
  unfold s_rtFailure
  rw [w64 (by omega) (by omega), br_dec, rtFail_eq]; rfl
end
theorem rpiece_eq {s : Co} (h : CoOK s) (hp : s.pieces ≠ []) : onS s (s_rpiece N) = some (tS (pieceF s).1 ((pieceF s).2.enc s.sum)) := by
  obtain ⟨sum, own, other, expect, next, has, sent, pieces, inn⟩ := s
  cases pieces with
  | nil => exact absurd rfl hp
  | cons p r =>
    have hw : IntKind.i64.wrap (1 - next) = 1 - next := w1 h.next
    have e : decide (1 < ((pcs (p :: r)).length : Int)) = !r.isEmpty := by cases r <;> simp [pcs] <;> omega
    unfold onS s_rpiece
    simp only [e, hw, rput_eq, bnd1_mk]
    rw [br_dec, if_pos ((pcs_pos _).2 (by simp)), show pcs (p :: r) = V.bytes p :: pcs r from rfl, at_zero, unBytes_mk, br_dec, if_pos (by simp; omega)]
    rfl
def initF (n : Nat) : Nat -> List UInt8 -> List (List UInt8)
  | 0, _ => []
  | t + 1, b => if b.length <= n then [] else b.take n :: initF n t (b.drop n)
def lastF (n : Nat) : Nat -> List UInt8 -> List UInt8
  | 0, b => b
  | t + 1, b => if b.length <= n then b else lastF n t (b.drop n)
theorem cutF_eq (n : Nat) : ∀ (t : Nat) (b : List UInt8), cutF n t b = initF n t b ++ [lastF n t b]
  | 0, b => rfl
  | t + 1, b => by
    unfold cutF initF lastF
    by_cases h : b.length <= n
    . simp only [if_pos h, List.nil_append]
    . simp only [if_neg h, cutF_eq n t, List.cons_append]
theorem initF_len (n : Nat) (hn : 1 <= n) : ∀ (t : Nat) (b : List UInt8), (initF n t b).length <= b.length
  | 0, b => by simp [initF]
  | t + 1, b => by
    unfold initF
    by_cases h : b.length <= n
    . simp [if_pos h]
    . rw [if_neg h]
      have := initF_len n hn t (b.drop n)
      rw [List.length_drop] at this
      simp only [List.length_cons]; omega
theorem rsend_loop {R : Type} (n : Nat) (hn : 1 <= n) (n2 n3 : Int) (n5 n6 : Int) (b7 : Bool) (n8 n9 n10 : Int) (b11 : Bool) (n12 : Int) (b13 : Bool) (l14 : List UInt8) (vs15 : List V) (l16 : List UInt8) (n17 n18 n19 n20 n21 : Int) (b22 : Bool) (n23 n24 n25 : Int) (b26 : Bool) (n27 : Int) (b28 : Bool) (l29 : List UInt8) (vs30 : List V) (l31 : List UInt8) (K0 : List UInt8 -> List V -> Option R) : ∀ (t : Nat) (b : List UInt8) (acc : List V) (u : Nat), b.length < t -> b.length <= u + n -> acc.length + b.length <= 1000000 ->
    S_rsend_2 N n2 n3 (n : Int) n5 n6 b7 n8 n9 n10 b11 n12 b13 l14 vs15 l16 n17 n18 n19 n20 n21 b22 n23 n24 n25 b26 n27 b28 l29 vs30 l31 t b acc K0 = K0 (lastF n u b) (acc ++ pcs (initF n u b))
  | 0, b, acc, u, h, _, _ => by omega
  | t + 1, b, acc, u, ht, hu, ha => by
    unfold S_rsend_2 F_rsend_2
    rw [br_dec]
    by_cases hc : b.length <= n
    . rw [if_neg (by omega)]
      cases u with
      | zero => simp [initF, lastF, pcs]
      | succ u => unfold initF lastF; rw [if_pos hc, if_pos hc]; simp [pcs]
    . obtain ⟨u, rfl⟩ : ∃ v, u = v + 1 := ⟨u - 1, by omega⟩
      rw [if_pos (by omega), br_and, br_dec, if_pos (by omega), br_dec, if_pos (by omega), br_dec, if_pos (by simp; omega), br_and, br_dec, if_pos (by omega), br_dec, if_pos (by omega)]
      show S_rsend_2 N n2 n3 (n : Int) n5 n6 b7 n8 n9 n10 b11 n12 b13 l14 vs15 l16 n17 n18 n19 n20 n21 b22 n23 n24 n25 b26 n27 b28 l29 vs30 l31 t (List.drop (n : Int).toNat b) (acc ++ [V.bytes (List.take (n : Int).toNat b)]) K0 = _
      rw [show ((n : Int)).toNat = n by omega, rsend_loop n hn n2 n3 n5 n6 b7 n8 n9 n10 b11 n12 b13 l14 vs15 l16 n17 n18 n19 n20 n21 b22 n23 n24 n25 b26 n27 b28 l29 vs30 l31 K0 t (b.drop n) _ u (by rw [List.length_drop]; omega) (by rw [List.length_drop]; omega) (by rw [List.length_drop]; simp; omega)]
      conv => rhs; unfold initF lastF; rw [if_neg hc, if_neg hc]
      simp [pcs]
theorem rsend_eq {s : Co} (h : CoOK s) (b : List UInt8) (h1 : b.length < N) (h2 : b.length <= 1000000) : onS s (s_rsend N) b = some (tS (sendF s b).1 ((sendF s b).2.enc s.sum)) := by
  obtain ⟨a1, a2⟩ := cut_ok h.other b
  have ho := h.other
  have hs : CoOK { s with pieces := cut s.other.toNat b } := ⟨h.sum, h.own, h.other, h.expect, h.next, h.sent, h.sseq, a1, h.inn⟩
  have hpc := rpiece_eq N hs a2
  have hl := initF_len s.other.toNat (by omega) b.length b
  have hcut : pcs (initF s.other.toNat b.length b) ++ [V.bytes (lastF s.other.toNat b.length b)] = pcs (cut s.other.toNat b) := by
    unfold cut; rw [cutF_eq]; simp [pcs]
  unfold onS at hpc ⊢
  unfold s_rsend
  have hloop := fun K0 => rsend_loop (R := Int × Int × Int × Int × Int × Bool × Int × Int × Int × Bool × Int × Bool × List UInt8 × List V × List UInt8 × List UInt8) N s.other.toNat (by omega) s.sum s.own s.expect s.next s.has s.sent.nad s.sent.kind s.sent.seq s.sent.more s.sent.code s.sent.ans s.sent.inf (pcs s.pieces) s.inn 0 0 0 0 0 false 0 0 0 false 0 false [] [] [] K0 N b [] b.length h1 (by omega) (by simp; omega)
  rw [show ((s.other.toNat : Nat) : Int) = s.other by omega] at hloop
  rw [hloop, List.nil_append, br_dec, if_pos (by unfold pcs; simp; omega), hcut, hpc, bnd16_mk]
  rfl
theorem rblock_eq {s : Co} (xs : List UInt8) (h : xs.length <= 900000) : onS s (s_rblock N) xs = some ((rx s xs).1.nad, (rx s xs).1.kind, (rx s xs).1.seq, (rx s xs).1.more, (rx s xs).1.code, (rx s xs).1.ans, (rx s xs).1.inf, (rx s xs).2, decide ((rx s xs).2 = 0)) := by
  have hd : s_rDecode6 N xs s.sum = some (dNad s.sum xs, dKind s.sum xs, dSeq s.sum xs, dMore s.sum xs, dCode s.sum xs, dAns s.sum xs, dInf s.sum xs, decE s.sum xs) := by
    unfold s_rDecode6; rw [br_dec, if_pos h]
  unfold onS s_rblock rx decBl
  rw [hd, bnd8_mk]
  simp only [br_dec, br_not]
  by_cases h6 : decE s.sum xs = 6
  . simp [h6]
  . simp only [h6, if_false]
    by_cases hz : decE s.sum xs = 0
    . simp only [hz, ne_eq, not_true_eq_false, false_or, if_true]
      by_cases hn : dNad s.sum xs = 0
      . by_cases hk : dKind s.sum xs = 0
        . by_cases hl : s.own < ((dInf s.sum xs).length : Int) <;> simp [hn, hk, hl]
        . simp [hn, hk]
      . simp [hn]
    . simp [hz]
theorem rmore_eq (a b : List UInt8) (h : a.length + b.length <= 1000000) : s_rmore N a b = some (a ++ b) := by
  unfold s_rmore
  rw [br_dec, if_pos (by omega), br_dec, if_pos (by simp; omega), List.nil_append]
theorem at_inf {R : Type} {x : Bl} (h : x.chk = 0) (h0 : x.kind ≠ 0) (h1 : x.kind ≠ 1) (hc : x.code = 1 ∨ x.code = 3) (K : UInt8 -> Option R) : at? x.inf 0 K = K (x.inf.getD 0 0) /\ (0 < (x.inf.length : Int)) := by
  obtain ⟨e1, e2, e3, e4, e5, e6⟩ := super_facts h h0 h1
  obtain ⟨f0, _⟩ := e6 hc
  match hx : x.inf, f0 with
  | [u], _ => exact ⟨rfl, by simp⟩
end
end Go.Proofs.Ytilfphdeacogmaa.En

/- Chapter 08: the reference's terminal does what the model does. -/
namespace Go.Proofs.Ytilfphdeacogmaa.En
open Go
set_option linter.unusedVariables false
def onR {α : Type} (t : Tm) (f : Int -> Int -> Int -> Int -> Int -> Bool -> Int -> Int -> Int -> Bool -> Int -> Bool -> List UInt8 -> List V -> List UInt8 -> Int -> Int -> Int -> Bool -> Int -> α) : α := onS t.s f (stR t.state) t.offered t.fails t.done t.cause
section
variable (N : Nat)
theorem rfailure_cells {t : Tm} (h : TmOK t) (e : Int) (b : Bl) : onR t (s_rtFailure N) e (b.enc t.s.sum) = some (tT (tFailureF t e b).1 (outB t.s.sum (tFailureF t e b).2)) := by
  unfold onR onS
  rw [rtFailure_eq N _ _ _ _ _ _ _ _ _ _ _ _ _ _ _ _ _ _ _ _ _ h.fails]
  unfold tFailureF
  split <;> rfl
theorem rtInfo_eq {t : Tm} (h : TmOK t) (h2 : t.state = 2) {x : Bl} (hx : x.inf.length <= 254) :
    onR t (s_rtInfo N) x.nad x.kind x.seq x.more x.code x.ans x.inf = some (tT (tInfoF t x).1 (outB t.s.sum (tInfoF t x).2)) := by
  have hw := w1 h.s.expect
  have hi := h.inn (by omega)
  have hf := rfailure_cells N h 28 (bR t.s 2)
  have hr : encL t.s.sum 0 1 t.s.expect false 2 false [] = (bR t.s 2).enc t.s.sum := rfl
  have hm := rmore_eq N t.s.inn x.inf (by omega)
  have hp : (0 < ((pcs t.s.pieces).length : Int)) ↔ t.s.pieces ≠ [] := pcs_pos _
  unfold onR onS at hf ⊢
  unfold s_rtInfo tInfoF
  simp only [rready_eq, rtFail_eq, bnd1_mk, br_dec, br_not, hw, hp, hr, hf, hm]
  by_cases e1 : x.seq = t.s.expect
  . by_cases e3 : t.s.pieces = []
    . have n1 : ¬ (x.seq ≠ t.s.expect ∨ t.s.pieces ≠ []) := by rintro (hh | hh) <;> contradiction
      simp only [if_neg n1]
      rw [if_pos e1, if_neg (not_not_intro e3)]
      by_cases e5 : 65538 < (t.s.inn ++ x.inf).length
      . have e5' : (65538 < (((t.s.inn ++ x.inf).length : Nat) : Int)) := by omega
        simp only [if_pos e5, if_pos e5']; rfl
      . have e5' : ¬ (65538 < (((t.s.inn ++ x.inf).length : Nat) : Int)) := by omega
        simp only [if_neg e5, if_neg e5']
        cases hm : x.more <;> simp only [br_t, br_f, if_true, Bool.false_eq_true, if_false] <;> rfl
    . have n1 : (x.seq ≠ t.s.expect ∨ t.s.pieces ≠ []) := .inr e3
      simp only [if_pos n1]
      rw [if_pos e1, if_pos e3]; rfl
  . have n1 : (x.seq ≠ t.s.expect ∨ t.s.pieces ≠ []) := .inl e1
    simp only [if_pos n1, if_neg e1]; rfl
theorem rtReceive_eq {t : Tm} (h : TmOK t) (b : List UInt8) (hb : b.length <= 900000) :
    onR t (s_rtReceive N) b = some (tT (tRecvF t (rx t.s b).1 (rx t.s b).2).1 (outB t.s.sum (tRecvF t (rx t.s b).1 (rx t.s b).2).2)) := by
  obtain ⟨hr, hx⟩ := rx_range t.s b
  have hbl := rblock_eq N (s := t.s) b hb
  have hff := fun e b => rfailure_cells N h e b
  have st := h.state
  unfold onR onS at hff ⊢
  unfold onS at hbl
  unfold s_rtReceive
  rw [hbl, bnd9_mk]
  generalize (rx t.s b).1 = x at hx ⊢
  generalize (rx t.s b).2 = r at hr hx ⊢
  have hrr : ∀ k, encL t.s.sum 0 1 t.s.expect false k false [] = (bR t.s k).enc t.s.sum := fun _ => rfl
  have hse : encL t.s.sum t.s.sent.nad t.s.sent.kind t.s.sent.seq t.s.sent.more t.s.sent.code t.s.sent.ans t.s.sent.inf = t.s.sent.enc t.s.sum := rfl
  simp only [br_dec, br_not, rready_eq, roffer_eq, rput_eq, rtFail_eq, bnd1_mk, hrr, hse, hff]
  unfold tRecvF
  by_cases s0 : t.state = 0
  . have q : stR t.state = 0 := by unfold stR; rw [if_pos s0]
    simp only [if_pos q, if_pos (show t.state = 0 ∨ t.state = 3 from .inl s0)]; rfl
  by_cases s3 : t.state = 3
  . have q : stR t.state = 12 := by rw [s3]; rfl
    simp only [q, show ¬ ((12 : Int) = 0) by decide, if_true, if_false, if_pos (show t.state = 0 ∨ t.state = 3 from .inr s3)]
    unfold tT outB; rw [q]
  simp only [if_neg (show ¬ (t.state = 0 ∨ t.state = 3) by rintro (hh | hh) <;> contradiction)]
  by_cases s1 : t.state = 1
  . have q : stR t.state = 10 := by rw [s1]; rfl
    have ht := h.offers s1
    have hof := h.offered
    have hsp : encL t.s.sum 0 2 0 false 1 false [UInt8.ofNat (IntKind.u8.wrap t.offered).toNat] = (bS 1 false [b8 t.offered]).enc t.s.sum := by rw [b8_eq hof.1 (by omega)]; rfl
    have hfo := hff 28 (bS 1 false [b8 t.offered])
    rw [q] at hfo ⊢
    simp only [show ¬ ((10 : Int) = 0) by decide, show ¬ ((10 : Int) = 12) by decide, if_true, if_false, if_pos s1, hsp, hfo]
    by_cases r0 : r = 0
    . obtain ⟨x1, x2, x3⟩ := hx r0
      simp only [r0, if_true, true_and]
      by_cases k2 : x.kind = 2
      . by_cases k1 : x.code = 1
        . have g := fun K => at_inf (R := Int × Int × Int × Int × Int × Bool × Int × Int × Int × Bool × Int × Bool × List UInt8 × List V × List UInt8 × Int × Int × Int × Bool × Int × List UInt8) x1 (by omega) (by omega) (.inl k1) K
          rw [if_pos k2, if_pos k1, if_pos (g (fun _ => none)).2, (g _).1, w64_u8]
          cases ha : x.ans
          . simp only [br_f, Bool.false_eq_true, false_and, and_false, if_false]; rfl
          . rw [br_t]
            show (if inf0 x = t.offered then _ else _) = _
            by_cases hq : inf0 x = t.offered
            . simp only [if_pos hq, k2, k1, hq, and_self, if_true]; rfl
            . simp only [if_neg hq, hq, and_false, if_false]; rfl
        . rw [if_pos k2, if_neg k1]; simp only [k1, false_and, and_false, if_false]; rfl
      . rw [if_neg k2]; simp only [k2, false_and, if_false]; rfl
    . simp only [r0, if_false, false_and]; rfl
  simp only [if_neg s1]
  have s2 : t.state = 2 := by omega
  have q : stR t.state = 11 := by rw [s2]; rfl
  have hfo := hff
  rw [q] at hfo ⊢
  simp only [show ¬ ((11 : Int) = 0) by decide, show ¬ ((11 : Int) = 12) by decide, show ¬ ((11 : Int) = 10) by decide, if_false, hfo]
  by_cases r0 : r = 0
  . obtain ⟨x1, x2, x3⟩ := hx r0
    simp only [r0, ne_eq, not_true_eq_false, if_true, if_false]
    by_cases k0 : x.kind = 0
    . have hi := rtInfo_eq N h s2 (kind_ok x1).2.2
      unfold onR onS at hi
      rw [q] at hi
      simp only [if_pos k0]
      rw [hi]
      unfold tT
      rw [bnd21_mk]
    . simp only [if_neg k0]
      by_cases k1 : x.kind = 1
      . simp only [if_pos k1]
        have hp : (((pcs t.s.pieces).length : Int) = 0) ↔ t.s.pieces = [] := by
          unfold pcs; rw [List.length_map]; cases t.s.pieces <;> simp <;> omega
        simp only [hp]
        unfold tAgainF
        by_cases q1 : x.seq = t.s.sent.seq
        . simp only [if_pos q1]; rfl
        . simp only [if_neg q1]
          by_cases q2 : t.s.pieces = []
          . have n2 : ¬ (t.s.pieces ≠ []) := not_not_intro q2
            simp only [if_pos q2, if_neg n2]; rfl
          . have hpc := rpiece_eq N h.s q2
            unfold onS at hpc
            have n2 : t.s.pieces ≠ [] := q2
            simp only [if_neg q2, if_pos n2]
            rw [hpc]
            unfold tS tT
            rw [bnd16_mk, ← q]; rfl
      . obtain ⟨e1, e2, e3, e4, e5, e6⟩ := super_facts x1 k0 k1
        simp only [if_neg k1]
        unfold tSuperF tFailF
        by_cases ha : x.ans = true
        . simp only [ha, br_t, true_or, if_true]; rfl
        have ha' : x.ans = false := by simpa using ha
        rw [ha', br_f]
        simp only [Bool.false_eq_true, false_or, ranswer_eq, bnd1_mk]
        rcases e4 with c0 | c1 | c2 | c3
        . simp only [c0, if_true]; rfl
        . have g := fun K => at_inf (R := Int × Int × Int × Int × Int × Bool × Int × Int × Int × Bool × Int × Bool × List UInt8 × List V × List UInt8 × Int × Int × Int × Bool × Int × List UInt8) x1 k0 k1 (.inl c1) K
          rw [if_neg (by omega), if_neg (by omega), if_pos c1, if_pos (g (fun _ => none)).2, (g _).1, w64_u8]
          simp only [c1, show ¬ ((1 : Int) = 0) by decide, show ¬ ((1 : Int) = 2) by decide, if_true, if_false]
          unfold tT; rw [q]; rfl
        . simp only [c2, show ¬ ((2 : Int) = 0) by decide, if_true, if_false]; rfl
        . simp only [c3, show ¬ ((3 : Int) = 0) by decide, show ¬ ((3 : Int) = 1) by decide, show ¬ ((3 : Int) = 2) by decide, if_false]
          unfold tT; rw [q]; rfl
  . simp only [r0, ne_eq, not_false_eq_true, if_true, if_false]; rfl
theorem rtTime_eq {t : Tm} (h : TmOK t) : onR t (s_rtTimeout N) = some (tT (tTimeF t).1 (outB t.s.sum (tTimeF t).2)) := by
  have hff := fun e b => rfailure_cells N h e b
  have st := h.state
  unfold onR onS at hff ⊢
  unfold s_rtTimeout tTimeF
  have hrr : ∀ k, encL t.s.sum 0 1 t.s.expect false k false [] = (bR t.s k).enc t.s.sum := fun _ => rfl
  simp only [br_dec, rready_eq, roffer_eq, bnd1_mk, hrr, hff]
  by_cases s1 : t.state = 1
  . have q : stR t.state = 10 := by rw [s1]; rfl
    have ht := h.offers s1
    have hof := h.offered
    have hsp : encL t.s.sum 0 2 0 false 1 false [UInt8.ofNat (IntKind.u8.wrap t.offered).toNat] = (bS 1 false [b8 t.offered]).enc t.s.sum := by rw [b8_eq hof.1 (by omega)]; rfl
    simp only [if_pos q, if_pos s1, hsp, hff]; rfl
  . by_cases s2 : t.state = 2
    . have q : stR t.state = 11 := by rw [s2]; rfl
      have q' : ¬ stR t.state = 10 := by omega
      simp only [if_neg q', if_pos q, if_neg s1, if_pos s2]; rfl
    . have q : ¬ stR t.state = 10 /\ ¬ stR t.state = 11 := by unfold stR; split <;> omega
      simp only [if_neg q.1, if_neg q.2, if_neg s1, if_neg s2]; rfl
theorem rtResp_eq (t : Tm) : onR t (s_rtResponse N) = some (tRespF t) := by
  unfold onR onS s_rtResponse tRespF
  cases t.done <;> rfl
theorem rtFailed_eq {t : Tm} (h : TmOK t) : onR t (s_rtFailed N) = some t.cause := by
  have st := h.state
  have hc := h.cause
  unfold onR onS s_rtFailed
  simp only [br_dec, br_not]
  by_cases s3 : t.state = 3
  . have q : stR t.state = 12 := by rw [s3]; rfl
    rw [if_pos q]
  . have q : ¬ stR t.state = 12 := by unfold stR; split <;> omega
    rw [if_neg q, hc s3]
theorem rtOffer_eq {t : Tm} (h : TmOK t) (n : Int) : onR t (s_rtOffer N) n = some (tT (tOfferF t n).1 (outB t.s.sum (tOfferF t n).2)) := by
  have st := h.state
  unfold onR onS s_rtOffer tOfferF
  simp only [br_dec, br_not, roffer_eq, bnd1_mk]
  by_cases s0 : t.state = 0
  . have q : stR t.state = 0 := by rw [s0]; rfl
    simp only [if_pos q, s0, ne_eq, not_true_eq_false, false_or]
    by_cases h1 : n < 1
    . simp only [h1, true_or, if_true]; unfold tT; rw [s0]; rfl
    . by_cases h2 : 254 < n
      . simp only [h1, h2, or_true, if_true, if_false]; unfold tT; rw [s0]; rfl
      . simp only [h1, h2, or_self, if_false]
        rw [b8_eq (by omega) (by omega)]; rfl
  . have q : ¬ stR t.state = 0 := by unfold stR; split <;> omega
    simp only [if_neg q, s0, ne_eq, not_false_eq_true, true_or, if_true]; rfl
theorem rtSend_eq {t : Tm} (h : TmOK t) (b : List UInt8) (h1 : b.length < N) (h2 : b.length <= 1000000) :
    onR t (s_rtSend N) b = some (tT (tSendF t b).1 (outB t.s.sum (tSendF t b).2)) := by
  have st := h.state
  have hs : CoOK { t.s with inn := [] } := ⟨h.s.sum, h.s.own, h.s.other, h.s.expect, h.s.next, h.s.sent, h.s.sseq, h.s.piece, by simp⟩
  have hsc := rsend_eq N hs b h1 h2
  unfold onS at hsc
  unfold onR onS s_rtSend tSendF
  simp only [br_dec, br_not]
  by_cases s0 : t.state = 0
  . have q : stR t.state = 0 := by rw [s0]; rfl
    simp only [if_pos q, s0, ne_eq, not_true_eq_false, if_false]
    rw [hsc]
    unfold tS
    rw [bnd16_mk]; rfl
  . have q : ¬ stR t.state = 0 := by unfold stR; split <;> omega
    simp only [if_neg q, s0, ne_eq, not_false_eq_true, if_true]; rfl
end
end Go.Proofs.Ytilfphdeacogmaa.En

/- tone.NewCard, tone.NewTerminal: a new variable, or none; as entries. -/
namespace Go.Proofs.Ytilfphdeacogmaa.En
open Go
set_option linter.unusedVariables false
def rNew (rs : List D) (m : Mem) : Option (Nat × Option Bx) :=
  match rs, m with
  | [.ptr 0 s 0], [fr] => some (s, frGet s fr)
  | _, _ => none
def rNil (rs : List D) (_ : Mem) : Option Unit :=
  match rs with
  | [.nilp] => some ()
  | _ => none
theorem rNew_some {rs : List D} {m : Mem} {s : Nat} {B : Bx} (h : rNew rs m = some (s, some B)) : ∃ fr, rs = [.ptr 0 s 0] /\ m = [fr] /\ frGet s fr = some B := by
  unfold rNew at h
  split at h
  . rename_i s' fr
    injection h with h
    injection h with h1 h2
    subst h1
    exact ⟨fr, rfl, rfl, h2⟩
  . cases h
theorem rNil_some {rs : List D} {m : Mem} (h : rNil rs m = some ()) : rs = [.nilp] := by
  unfold rNil at h
  split at h
  . rfl
  . cases h
section
variable {P : Program} {T : TypeId -> Option Ty}
theorem MemRet.weak {f : FuncId} {dst : Nat} {ds rs : List D} {m m' m'' : Mem} (h : MemRet P T f dst ds m rs m') (hl : m''.length = m'.length) (hb : ∀ k s B'', m''.box? k s = some B'' -> ∃ B', m'.box? k s = some B' /\ WB B'' B') (hd : ∀ k s, memDom m' k s -> memDom m'' k s) : MemRet P T f dst ds m rs m'' := by
  intro E g w us hh hus
  refine (h E g w us hh hus).mono ?_
  rintro e w' ⟨us', g', E', a1, a2, a3, a4, a5⟩
  exact ⟨us', g', E', a1, a2, here_weak a3 hl hb hd, a4, a5⟩
theorem WCs.refl : ∀ l : List D, WCs l l
  | [] => trivial
  | c :: l => ⟨.inl rfl, WCs.refl l⟩
theorem MemRet.weakB {f : FuncId} {dst : Nat} {ds rs : List D} {m : Mem} {s : Nat} {B B' : Bx} (h : MemRet P T f dst ds m rs (m.setBox 0 s B')) (hw : WB B B') : MemRet P T f dst ds m rs (m.setBox 0 s B) := by
  refine h.weak (by rw [setBox_length, setBox_length]) (fun k s' B'' hB => ?_) (fun k s' hB => ?_)
  . rw [box_set] at hB ⊢
    split at hB
    . rename_i hc
      rw [if_pos hc]
      injection hB with hB
      subst hB
      exact ⟨B', rfl, hw⟩
    . rename_i hc
      rw [if_neg hc]
      exact ⟨B'', hB, rfl, WCs.refl _⟩
  . obtain ⟨b, hb⟩ := hB
    rw [box_set] at hb
    by_cases hc : k = 0 /\ s' = s /\ 0 < m.length
    . exact ⟨B, by rw [box_set, if_pos hc]⟩
    . rw [if_neg hc] at hb
      exact ⟨b, by rw [box_set, if_neg hc]; exact hb⟩
end
noncomputable def cx_new (N : Nat) : Cx := cxO [⟨41, e_valid (s_valid N)⟩] []
theorem co_new (N : Nat) : CxOK Try.prog (cx_new N) := cxO_ok ⟨eo_valid _ (p_valid N), trivial⟩ trivial
def b0_cNew (x0 x1 : Int) : Bx := ⟨77, [.v (.int .i64 x1) .no, .v (.int .i64 x0) .no, .v (.int .i64 32) .no, .v (.int .i64 0) .no, .v (.int .i64 0) .no, .v (.bytes []) (.own (.slot 0) 5), .v (.int .i64 0) .no, .v (.sl 27 []) (.own (.slot 0) 27), .v (.bytes []) (.own (.slot 0) 5), .v (.int .i64 0) .no, .v (.bytes []) (.own (.slot 0) 5)]⟩
def b_cNew (x0 x1 : Int) : Bx := ⟨77, [.v (.int .i64 x1) .no, .v (.int .i64 x0) .no, .v (.int .i64 32) .no, .v (.int .i64 0) .no, .v (.int .i64 0) .no, .v (.bytes []) .no, .v (.int .i64 0) .no, .v (.sl 27 []) .no, .v (.bytes []) (.own (.slot 0) 5), .v (.int .i64 0) .no, .v (.bytes []) .no]⟩
theorem bw_cNew (x0 x1 : Int) : WB (b_cNew x0 x1) (b0_cNew x0 x1) := ⟨rfl, .inl rfl, .inl rfl, .inl rfl, .inl rfl, .inl rfl, .inr ⟨_, _, rfl, rfl⟩, .inl rfl, .inr ⟨_, _, rfl, rfl⟩, .inl rfl, .inl rfl, .inr ⟨_, _, rfl, rfl⟩, trivial⟩
noncomputable def s_cNew (N : Nat) (x0 x1 : Int) : Option Bool := s_valid N x0 x1
noncomputable def e_cNew {R : Type} (s : Int -> Int -> Option Bool) (dst : Nat) (ds : List D) (m : Mem) (K : List D -> Mem -> Option R) : Option R :=
  match ds with
  | [.v (.int .i64 x0) .no, .v (.int .i64 x1) .no] => bnd1 (s x0 x1) fun b => br b (match m.box? 0 dst with | none => memPutK m 0 dst (b_cNew x0 x1) fun m' => K [.ptr 0 dst 0] m' | some _ => none) (K [.nilp] m)
  | _ => none
theorem n_cNew (N : Nat) (x0 x1 : Int) : bodyK (cx_new N) Try.f11 [.v (.int .i64 x0) .no, .v (.int .i64 x1) .no] [] rNew = bnd1 (s_valid N x0 x1) fun b => br (!b) none (some (13, some (b0_cNew x0 x1))) := by
  kernel_rfl
theorem z_cNew (N : Nat) (x0 x1 : Int) : bodyK (cx_new N) Try.f11 [.v (.int .i64 x0) .no, .v (.int .i64 x1) .no] [] rNil = bnd1 (s_valid N x0 x1) fun b => br (!b) (some ()) none := by
  kernel_rfl
def Ret_cNew (x0 x1 : Int) (b : Bool) : Prop :=
  (b = true -> ∀ (m : Mem) (dst : Nat), m.box? 0 dst = none -> MemRet Try.prog T 11 dst [.v (.int .i64 x0) .no, .v (.int .i64 x1) .no] m [.ptr 0 dst 0] (m.setBox 0 dst (b_cNew x0 x1))) /\
  (b = false -> PureRet Try.prog T 11 [.v (.int .i64 x0) .no, .v (.int .i64 x1) .no] [.nilp])
theorem p_cNew (N : Nat) (x0 x1 : Int) (b : Bool) (h : s_cNew N x0 x1 = some b) : Ret_cNew x0 x1 b := by
  have h : s_valid N x0 x1 = some b := h
  refine ⟨?_, ?_⟩
  . rintro rfl m dst hn
    refine MemRet.weakB (B' := b0_cNew x0 x1) ?_ (bw_cNew x0 x1)
    exact new_entry (cx := cx_new N) (by kernel_rfl) (co_new N) Try.func11 (by kernel_rfl) (by kernel_rfl) (loopsOK_of (k := 0) (by kernel_rfl) trivial) rfl rfl rfl (rf := rNew) (r := (13, some (b0_cNew x0 x1))) ((n_cNew N x0 x1).trans (by rw [h]; rfl)) (by rfl)
      (fun rs' m' hr => by
        obtain ⟨fr, e1, e2, e3⟩ := rNew_some hr
        exact ⟨_, fr, e1, e2, e3⟩) hn
  . rintro rfl
    exact pure_of (cx := cx_new N) (by kernel_rfl) (co_new N) Try.func11 (by kernel_rfl) (by kernel_rfl) (loopsOK_of (k := 0) (by kernel_rfl) trivial) rfl rfl rfl (rf := rNil) (r := ()) ((z_cNew N x0 x1).trans (by rw [h]; rfl)) (fun rs' m' hr => by
      rw [rNil_some hr]; exact ⟨rfl, rfl⟩)
abbrev Q_cNew (s : Int -> Int -> Option Bool) : Prop := ∀ x0 x1 b, s x0 x1 = some b -> Ret_cNew x0 x1 b
theorem eo_cNew (s : Int -> Int -> Option Bool) (hs : Q_cNew s) : MEntOK Try.prog T ⟨11, e_cNew s⟩ := by
  refine ⟨goes_of Try.func11 (by kernel_rfl) (c := bodyOf Try.f11) (by kernel_rfl), fun R dst ds m K r h => ?_⟩
  simp only [e_cNew] at h
  split at h
  . obtain ⟨b, h1, h2⟩ := bnd1_some h
    have h3 := hs _ _ _ h1
    cases b with
    | true =>
      have h2 : (match m.box? 0 dst with | none => memPutK m 0 dst (b_cNew _ _) fun m' => K [.ptr 0 dst 0] m' | some _ => none) = some r := h2
      split at h2
      . rename_i hn
        rw [memPutK_eq] at h2
        exact ⟨_, _, h2, h3.1 rfl m dst hn⟩
      . cases h2
    | false =>
      have h2 : K [.nilp] m = some r := h2
      exact ⟨_, _, h2, mem_of_pure (h3.2 rfl) rfl rfl m dst⟩
  . cases h
def b0_tNew (x0 x1 : Int) : Bx := ⟨95, [.v (.int .i64 x1) .no, .v (.int .i64 32) .no, .v (.int .i64 x0) .no, .v (.int .i64 0) .no, .v (.int .i64 0) .no, .v (.bytes []) (.own (.slot 0) 5), .v (.int .i64 0) .no, .v (.sl 27 []) (.own (.slot 0) 27), .v (.bytes []) (.own (.slot 0) 5), .v (.int .i64 0) .no, .v (.int .i64 0) .no, .v (.bytes []) (.own (.slot 0) 5), .v (.bool false) .no, .v (.int .i64 0) .no]⟩
def b_tNew (x0 x1 : Int) : Bx := ⟨95, [.v (.int .i64 x1) .no, .v (.int .i64 32) .no, .v (.int .i64 x0) .no, .v (.int .i64 0) .no, .v (.int .i64 0) .no, .v (.bytes []) .no, .v (.int .i64 0) .no, .v (.sl 27 []) .no, .v (.bytes []) (.own (.slot 0) 5), .v (.int .i64 0) .no, .v (.int .i64 0) .no, .v (.bytes []) .no, .v (.bool false) .no, .v (.int .i64 0) .no]⟩
theorem bw_tNew (x0 x1 : Int) : WB (b_tNew x0 x1) (b0_tNew x0 x1) := ⟨rfl, .inl rfl, .inl rfl, .inl rfl, .inl rfl, .inl rfl, .inr ⟨_, _, rfl, rfl⟩, .inl rfl, .inr ⟨_, _, rfl, rfl⟩, .inl rfl, .inl rfl, .inl rfl, .inr ⟨_, _, rfl, rfl⟩, .inl rfl, .inl rfl, trivial⟩
noncomputable def s_tNew (N : Nat) (x0 x1 : Int) : Option Bool := s_valid N x0 x1
noncomputable def e_tNew {R : Type} (s : Int -> Int -> Option Bool) (dst : Nat) (ds : List D) (m : Mem) (K : List D -> Mem -> Option R) : Option R :=
  match ds with
  | [.v (.int .i64 x0) .no, .v (.int .i64 x1) .no] => bnd1 (s x0 x1) fun b => br b (match m.box? 0 dst with | none => memPutK m 0 dst (b_tNew x0 x1) fun m' => K [.ptr 0 dst 0] m' | some _ => none) (K [.nilp] m)
  | _ => none
theorem n_tNew (N : Nat) (x0 x1 : Int) : bodyK (cx_new N) Try.f23 [.v (.int .i64 x0) .no, .v (.int .i64 x1) .no] [] rNew = bnd1 (s_valid N x0 x1) fun b => br (!b) none (some (13, some (b0_tNew x0 x1))) := by
  kernel_rfl
theorem z_tNew (N : Nat) (x0 x1 : Int) : bodyK (cx_new N) Try.f23 [.v (.int .i64 x0) .no, .v (.int .i64 x1) .no] [] rNil = bnd1 (s_valid N x0 x1) fun b => br (!b) (some ()) none := by
  kernel_rfl
def Ret_tNew (x0 x1 : Int) (b : Bool) : Prop :=
  (b = true -> ∀ (m : Mem) (dst : Nat), m.box? 0 dst = none -> MemRet Try.prog T 23 dst [.v (.int .i64 x0) .no, .v (.int .i64 x1) .no] m [.ptr 0 dst 0] (m.setBox 0 dst (b_tNew x0 x1))) /\
  (b = false -> PureRet Try.prog T 23 [.v (.int .i64 x0) .no, .v (.int .i64 x1) .no] [.nilp])
theorem p_tNew (N : Nat) (x0 x1 : Int) (b : Bool) (h : s_tNew N x0 x1 = some b) : Ret_tNew x0 x1 b := by
  have h : s_valid N x0 x1 = some b := h
  refine ⟨?_, ?_⟩
  . rintro rfl m dst hn
    refine MemRet.weakB (B' := b0_tNew x0 x1) ?_ (bw_tNew x0 x1)
    exact new_entry (cx := cx_new N) (by kernel_rfl) (co_new N) Try.func23 (by kernel_rfl) (by kernel_rfl) (loopsOK_of (k := 0) (by kernel_rfl) trivial) rfl rfl rfl (rf := rNew) (r := (13, some (b0_tNew x0 x1))) ((n_tNew N x0 x1).trans (by rw [h]; rfl)) (by rfl)
      (fun rs' m' hr => by
        obtain ⟨fr, e1, e2, e3⟩ := rNew_some hr
        exact ⟨_, fr, e1, e2, e3⟩) hn
  . rintro rfl
    exact pure_of (cx := cx_new N) (by kernel_rfl) (co_new N) Try.func23 (by kernel_rfl) (by kernel_rfl) (loopsOK_of (k := 0) (by kernel_rfl) trivial) rfl rfl rfl (rf := rNil) (r := ()) ((z_tNew N x0 x1).trans (by rw [h]; rfl)) (fun rs' m' hr => by
      rw [rNil_some hr]; exact ⟨rfl, rfl⟩)
abbrev Q_tNew (s : Int -> Int -> Option Bool) : Prop := ∀ x0 x1 b, s x0 x1 = some b -> Ret_tNew x0 x1 b
theorem eo_tNew (s : Int -> Int -> Option Bool) (hs : Q_tNew s) : MEntOK Try.prog T ⟨23, e_tNew s⟩ := by
  refine ⟨goes_of Try.func23 (by kernel_rfl) (c := bodyOf Try.f23) (by kernel_rfl), fun R dst ds m K r h => ?_⟩
  simp only [e_tNew] at h
  split at h
  . obtain ⟨b, h1, h2⟩ := bnd1_some h
    have h3 := hs _ _ _ h1
    cases b with
    | true =>
      have h2 : (match m.box? 0 dst with | none => memPutK m 0 dst (b_tNew _ _) fun m' => K [.ptr 0 dst 0] m' | some _ => none) = some r := h2
      split at h2
      . rename_i hn
        rw [memPutK_eq] at h2
        exact ⟨_, _, h2, h3.1 rfl m dst hn⟩
      . cases h2
    | false =>
      have h2 : K [.nilp] m = some r := h2
      exact ⟨_, _, h2, mem_of_pure (h3.2 rfl) rfl rfl m dst⟩
  . cases h
end Go.Proofs.Ytilfphdeacogmaa.En

/- (*tone.Terminal).Failed only looks at the terminal: the walk; as an entry. -/
namespace Go.Proofs.Ytilfphdeacogmaa.En
open Go Go.RowKit
set_option linter.unusedVariables false
theorem made_some (b : Nat) (own : Int) (w : World) (h1 : w.cell? ⟨b, 1, none⟩ = some (.int .i64 own)) (ho : 0 < own) :
    Calls Try.prog 62 #[.pointer (some ⟨b, 0, none⟩)] w fun e w' => e = .returned (.bool true) /\ w' = w := by
  go_enter Try.func62, Try.ntmps62
  go_wp2
  go_ret
  exact ⟨rfl, rfl⟩
theorem failed_any (b : Nat) (own cause : Int) (w : World) (h1 : w.cell? ⟨b, 1, none⟩ = some (.int .i64 own)) (h13 : w.cell? ⟨b, 13, none⟩ = some (.int .i64 cause)) (ho : 0 < own) :
    Calls Try.prog 28 #[.pointer (some ⟨b, 0, none⟩)] w fun e w' => e = .returned (.int .i64 cause) /\ w' = w := by
  go_enter Try.func28, Try.ntmps28
  go_wp2_with fail
  refine (made_some b own w h1 ho).mono ?_
  rintro e w1 ⟨rfl, rfl⟩
  go_wp2_with fail
  go_ret
  exact ⟨rfl, rfl⟩
section
variable {R : Type}
theorem getAllK_b {α β : Type} {m : Mem} : ∀ (ps : List (Nat × Nat)) (F : List Bx -> Option α) (K : α -> Option β), (getAllK ps m F).bind K = getAllK ps m fun Bs => (F Bs).bind K
  | [], F, K => rfl
  | p :: r, F, K => by
    unfold getAllK
    cases m.box? p.1 p.2 with
    | none => rfl
    | some B => exact getAllK_b r _ K
theorem viewK_b {α β : Type} {m : Mem} (ps : List (Nat × Nat)) (F : List Bx -> Option α) (K : α -> Option β) : (viewK ps m F).bind K = viewK ps m fun Bs => (F Bs).bind K := by
  unfold viewK
  cases distinct ps
  . rfl
  . exact getAllK_b ps F K
end
noncomputable def s_tFailedS (N : Nat) (y1 y13 : Int) : Option Int := br (decide (0 < y1)) (some y13) none
noncomputable def e_tFailedS {R : Type} (s : Int -> Int -> Option Int) (ds : List D) (m : Mem) (K : List D -> Option R) : Option R :=
  match ds with
  | [.ptr (kv0 + 1) sv0 0] => viewK [(kv0, sv0)] m fun Bs => (match Bs with
    | [⟨95, [.v (.int .i64 y0) .no, .v (.int .i64 y1) .no, .v (.int .i64 y2) .no, .v (.int .i64 y3) .no, .v (.int .i64 y4) .no, .v (.bytes y5) _, .v (.int .i64 y6) .no, .v (.sl 27 y7) _, .v (.bytes y8) _, .v (.int .i64 y9) .no, .v (.int .i64 y10) .no, .v (.bytes y11) _, .v (.bool y12) .no, .v (.int .i64 y13) .no]⟩] => bnd1 (s y1 y13) fun r0 => K [.v (.int .i64 r0) .no]
    | _ => none)
  | _ => none
theorem p_tFailedS (N : Nat) (y1 y13 r : Int) (h : s_tFailedS N y1 y13 = some r) : 0 < y1 /\ r = y13 := by
  unfold s_tFailedS br at h
  by_cases ho : 0 < y1
  . simp only [ho, decide_true, cond_true] at h
    injection h with h
    exact ⟨ho, h.symm⟩
  . simp only [ho, decide_false, cond_false] at h
    cases h
theorem cellV {E : Env} {g : G} {w : World} {k s i : Nat} {n : Int} {u : Value} (h : RepD E g w [] (loadCell k s i (.v (.int .i64 n) .no)) u) : u = .int .i64 n /\ IntKind.i64.min <= n /\ n <= IntKind.i64.max := by
  have h : RepD E g w [] (.v (.int .i64 n) .no) u := h
  cases h with
  | v _ _ _ hv _ =>
    cases hv with
    | int _ _ hr => exact ⟨rfl, hr⟩
abbrev Q_tFailedS (s : Int -> Int -> Option Int) : Prop := ∀ y1 y13 r, s y1 y13 = some r -> 0 < y1 /\ r = y13
theorem eo_tFailedS (s : Int -> Int -> Option Int) (hs : Q_tFailedS s) : SEntOK Try.prog T ⟨28, e_tFailedS s⟩ := by
  refine ⟨goes_of Try.func28 (by kernel_rfl) (c := bodyOf Try.f28) (by kernel_rfl), fun R ds m K r h => ?_, fun R ds m K => ?_⟩
  . simp only [e_tFailedS] at h
    split at h
    . rename_i kv sv
      obtain ⟨Bs, a1, a2, a3, h⟩ := viewK_some h
      split at h
      . rename_i y0 y1 y2 y3 y4 y5 t5 y6 y7 t7 y8 t8 y9 y10 y11 t11 y12 y13
        obtain ⟨r0, h1, h2⟩ := bnd1_some h
        obtain ⟨ho, rfl⟩ := hs _ _ _ h1
        refine ⟨_, h2, ?_⟩
        intro E g w us hh hus
        obtain ⟨hl, hr⟩ := hus
        match us, hl with
        | [u], _ =>
        have hu := hr 0 _ rfl
        simp only [List.getD_cons_zero] at hu
        cases hu with
        | ptr k' s' o b1 b2 =>
        have eJ : (inner E m).d - (kv + 1) = E.d - kv := by show E.d + 1 - (kv + 1) = _; omega
        rw [eJ]
        obtain ⟨B, hB, hB'⟩ := a2 0 (kv, sv) rfl
        simp at hB'
        subst hB'
        simp only at hB
        have hbr := hh.mem kv sv _ hB
        obtain ⟨cs, c1, c2, c3⟩ := hbr.heap
        obtain ⟨e1, _⟩ := cellV (c3 1 _ rfl).2.2.2
        obtain ⟨e13, hrg⟩ := cellV (c3 13 _ rfl).2.2.2
        have hcell : ∀ i, i < 14 -> w.cell? ⟨g.J (E.d - kv) sv, i, none⟩ = some (cs.getD i undef) := by
          intro i hi
          rw [cell_of_row w _ i cs _ _ c1]
          have : i < cs.size := by rw [c2]; simpa using hi
          simp [this]
        refine (failed_any _ y1 r0 w (by rw [hcell 1 (by omega), e1]) (by rw [hcell 13 (by omega), e13]) ho).mono ?_
        rintro e w' ⟨rfl, rfl⟩
        exact ⟨[.int .i64 r0], newG g w', rfl, fun E' => ⟨rfl, fun k y hk => by
          rcases k with _ | k
          . simp at hk; subst hk; exact .v _ _ _ (.int _ _ hrg) trivial
          . simp at hk⟩, newG_tr (Below.refl _ _)⟩
      . cases h
    . cases h
  . simp only [e_tFailedS]
    split
    . rw [viewK_b]
      congr 1
      funext Bs
      split
      . rw [bnd1_b]; rfl
      . rfl
    . rfl
end Go.Proofs.Ytilfphdeacogmaa.En

/- Functions of the program in plain Lean, joined to the program by evaluation; printed by a program. -/
namespace Go.Proofs.Ytilfphdeacogmaa.En
open Go Go.Proofs
set_option maxRecDepth 100000
set_option maxHeartbeats 8000000
set_option linter.unusedVariables false
noncomputable def e_works {R : Type} (s : Option (Bool)) (ds : List D) (K : List D -> Option R) : Option R :=
  match ds with
  | [] => bnd1 (s) fun r0 => K [dB r0]
  | _ => none
noncomputable def s_works (N : Nat)  : Option (Bool) := bnd1 (s_tNew N 32 0) fun b0 => br b0 (bnd1 (s_cNew N 32 0) fun b1 => br b1 (bnd9 (s_tSend N [UInt8.ofNat (Int.toNat 0), UInt8.ofNat (Int.toNat 164), UInt8.ofNat (Int.toNat 0), UInt8.ofNat (Int.toNat 0), UInt8.ofNat (Int.toNat 2)] 0 32 32 0 0 [] 0 [] [] 0 0 [] false 0) fun l2 n3 l4 n5 l6 l7 n8 n9 b10 => bnd9 (s_cReceive N l2 0 32 32 0 0 [] 0 [] [] 0 []) fun l11 n12 n13 n14 l15 n16 l17 l18 n19 => bnd2 (s_cCommand N 0 32 n12 n13 n14 l15 n16 l17 l18 n19 []) fun l20 b21 => bnd6 (s_cReply N [UInt8.ofNat (Int.toNat 144), UInt8.ofNat (Int.toNat 0)] 0 32 n12 n13 n14 l15 n16 l17 l18 n19 []) fun l22 n23 l24 n25 l26 n27 => bnd13 (s_tReceive N l22 0 32 32 0 n3 l4 n5 l6 l7 n8 n9 [] b10 0) fun l28 n29 n30 n31 n32 l33 n34 l35 l36 n37 n38 b39 n40 => bnd2 (s_tResponse N 0 n29 n30 n31 n32 l33 n34 l35 l36 n37 n38 [] b39 n40) fun l41 b42 => bnd9 (s_tSend N [UInt8.ofNat (Int.toNat 1)] 0 n29 n30 n31 n32 l33 n34 l35 l36 n37 n38 [] b39 n40) fun l43 n44 l45 n46 l47 l48 n49 n50 b51 => br (decide (l2.length <= 9223372036854775807)) (br (decide (l2 = ([0, 0, 5, 0, 164, 0, 0, 2, 163] : List UInt8))) (br (decide ((l11.length : Int) = 0)) (br b21 (br (decide (l20.length <= 9223372036854775807)) (br (decide (l20 = ([0, 164, 0, 0, 2] : List UInt8))) (br (decide (l22.length <= 9223372036854775807)) (br (decide (l22 = ([0, 0, 2, 144, 0, 146] : List UInt8))) (br (decide ((l28.length : Int) = 0)) (br b42 (br (decide (l41.length <= 9223372036854775807)) (br (decide (l41 = ([144, 0] : List UInt8))) (br (decide ((l43.length : Int) = 5)) (br (decide (1 < (l43.length : Int))) (at? l43 1 fun u52 => some (decide ((u52.toNat : Int) = 64))) none) (some false)) (some false)) none) (some false)) (some false)) (some false)) none) (some false)) none) (some false)) (some false)) (some false)) none) (some false)) (bnd1 (s_cNew N 32 0) fun b53 => br b53 (some false) (some false))
noncomputable def cx_works (N : Nat) : Cx := cxO [] [⟨23, e_tNew (s_tNew N)⟩, ⟨11, e_cNew (s_cNew N)⟩, ⟨24, e_tSend (s_tSend N)⟩, ⟨13, e_cReceive (s_cReceive N)⟩, ⟨19, e_cCommand (s_cCommand N)⟩, ⟨15, e_cReply (s_cReply N)⟩, ⟨27, e_tReceive (s_tReceive N)⟩, ⟨29, e_tResponse (s_tResponse N)⟩]
theorem s_works_ok (N : Nat)  : bodyK (cx_works N) Try.f10 [] [] r_valid = s_works N  := by
  kernel_rfl
abbrev Q_works (s : Option (Bool)) : Prop := ∀ r0, s  = some r0 -> PureRet Try.prog T 10 [] [dB r0]
theorem eo_works (s : Option (Bool)) (hs : Q_works s) : EntOK Try.prog T ⟨10, e_works s⟩ := by
  refine ⟨goes_of Try.func10 (by kernel_rfl) (c := bodyOf Try.f10) (by kernel_rfl), fun R ds K r h => ?_, fun R ds K => ?_⟩
  . simp only [e_works] at h
    split at h
    . obtain ⟨r0, h1, h2⟩ := bnd1_some h
      exact ⟨_, h2, hs _ h1⟩
    . cases h
  . simp only [e_works]
    split
    . rw [bnd1_b]; rfl
    . rfl
theorem p_works (N : Nat)  (r0 : Bool) (h : s_works N  = some r0) : PureRet Try.prog T 10 [] [dB r0] :=
  pure_of (cx := cx_works N) (by kernel_rfl) (cxO_ok trivial ⟨eo_tNew _ (p_tNew N), eo_cNew _ (p_cNew N), eo_tSend _ (p_tSend N), eo_cReceive _ (p_cReceive N), eo_cCommand _ (p_cCommand N), eo_cReply _ (p_cReply N), eo_tReceive _ (p_tReceive N), eo_tResponse _ (p_tResponse N), trivial⟩) Try.func10 (by kernel_rfl) (by kernel_rfl) (loopsOK_of (k := 0) (by kernel_rfl) trivial) rfl rfl rfl (rf := r_valid) ((s_works_ok N ).trans h) (fun rs' m h => by
    unfold r_valid at h
    split at h
    . cases h; exact ⟨rfl, rfl⟩
    . cases h)
noncomputable def F_wTerms_10 {R : Type} (N : Nat) (n0 : Int) (vs1 : List V) (n23 : Int) (Lq : Int -> Int -> Int -> Int -> Int -> Int -> Bool -> Int -> Int -> Int -> Bool -> Int -> Bool -> List UInt8 -> List V -> List UInt8 -> Int -> Int -> Int -> Bool -> Int -> Int -> Int -> Int -> Int -> List UInt8 -> Int -> List V -> List UInt8 -> Int -> Int -> List UInt8 -> Bool -> Int -> Option R) (K0 : Bool -> Int -> Int -> Int -> Int -> Int -> Bool -> Int -> Int -> Int -> Bool -> Int -> Bool -> List UInt8 -> List V -> List UInt8 -> Int -> Int -> Int -> Bool -> Int -> Int -> Int -> Int -> Int -> List UInt8 -> Int -> List V -> List UInt8 -> Int -> Int -> List UInt8 -> Bool -> Int -> Option R) (K1 : Int -> Int -> Int -> Int -> Int -> Bool -> Int -> Int -> Int -> Bool -> Int -> Bool -> List UInt8 -> List V -> List UInt8 -> Int -> Int -> Int -> Bool -> Int -> Int -> Int -> Int -> Int -> List UInt8 -> Int -> List V -> List UInt8 -> Int -> Int -> List UInt8 -> Bool -> Int -> Option R) (n2 n3 n4 n5 n6 n7 : Int) (b8 : Bool) (n9 n10 n11 : Int) (b12 : Bool) (n13 : Int) (b14 : Bool) (l15 : List UInt8) (vs16 : List V) (l17 : List UInt8) (n18 n19 n20 : Int) (b21 : Bool) (n22 n24 n25 n26 n27 : Int) (l28 : List UInt8) (n29 : Int) (vs30 : List V) (l31 : List UInt8) (n32 n33 : Int) (l34 : List UInt8) (b35 : Bool) (n36 : Int) : Option R := br (decide (n2 < (vs1.length : Int))) (br (decide (0 <= n2) && decide (n2 < (vs1.length : Int))) (at? vs1 n2.toNat fun x0 => x0.unAgg fun l1 => unCons l1 fun x2 l3 => V.unInt IntKind.i64 x2 fun n4_1 => unCons l3 fun x5 l6 => V.unInt IntKind.i64 x5 fun n7_1 => unCons l6 fun x8 l9 => x8.unBytes fun l10 => unNil l9 (br (decide (n4_1 = 0)) (br (decide (0 <= n2) && decide (n2 < (vs1.length : Int))) (at? vs1 n2.toNat fun x11 => x11.unAgg fun l12 => unCons l12 fun x13 l14 => V.unInt IntKind.i64 x13 fun n15 => unCons l14 fun x16 l17_1 => V.unInt IntKind.i64 x16 fun n18_1 => unCons l17_1 fun x19 l20 => x19.unBytes fun l21 => unNil l20 (bnd13 (s_tReceive N l21 n23 n24 n25 n26 n27 l28 n29 vs30 l31 n32 n33 l34 b35 n36) fun l22 n23_1 n24 n25 n26 l27 n28 l29 l30 n31 n32 b33 n34 => br (decide (0 <= n2) && decide (n2 < (vs1.length : Int))) (at? vs1 n2.toNat fun x35 => x35.unAgg fun l36 => unCons l36 fun x37 l38 => V.unInt IntKind.i64 x37 fun n39 => unCons l38 fun x40 l41 => V.unInt IntKind.i64 x40 fun n42 => unCons l41 fun x43 l44 => x43.unBytes fun l45 => unNil l44 (bnd21 (s_rtReceive N n3 n4 n5 n6 n7 b8 n9 n10 n11 b12 n13 b14 l15 vs16 l17 n18 n19 n20 b21 n22 l45) fun n46 n47 n48 n49 n50 b51 n52 n53 n54 b55 n56 b57 l58 l59 l60 n61 n62 n63 b64 n65 l66 => bnd2 (s_tResponse N n23 n23_1 n24 n25 n26 l27 n28 l29 l30 n31 n32 l34 b33 n34) fun l67 b68 => bnd2 (s_rtResponse N n46 n47 n48 n49 n50 b51 n52 n53 n54 b55 n56 b57 l58 l59 l60 n61 n62 n63 b64 n65) fun l69 b70 => br (decide (l22.length <= 9223372036854775807)) (br (decide (l66.length <= 9223372036854775807)) (br (!decide (l22 = l66)) (K0 false n46 n47 n48 n49 n50 b51 n52 n53 n54 b55 n56 b57 l58 l59 l60 n61 n62 n63 b64 n65 n23_1 n24 n25 n26 l27 n28 l29 l30 n31 n32 l34 b33 n34) (bnd1 (s_sound N l22 n0) fun b71 => br (!b71) (K0 false n46 n47 n48 n49 n50 b51 n52 n53 n54 b55 n56 b57 l58 l59 l60 n61 n62 n63 b64 n65 n23_1 n24 n25 n26 l27 n28 l29 l30 n31 n32 l34 b33 n34) (br (!b68 == b70) (K0 false n46 n47 n48 n49 n50 b51 n52 n53 n54 b55 n56 b57 l58 l59 l60 n61 n62 n63 b64 n65 n23_1 n24 n25 n26 l27 n28 l29 l30 n31 n32 l34 b33 n34) (br (decide (l67.length <= 9223372036854775807)) (br (decide (l69.length <= 9223372036854775807)) (br (!decide (l67 = l69)) (K0 false n46 n47 n48 n49 n50 b51 n52 n53 n54 b55 n56 b57 l58 l59 l60 n61 n62 n63 b64 n65 n23_1 n24 n25 n26 l27 n28 l29 l30 n31 n32 l34 b33 n34) (bnd1 (s_tFailedS N n23_1 n34) fun n72 => bnd1 (s_rtFailed N n46 n47 n48 n49 n50 b51 n52 n53 n54 b55 n56 b57 l58 l59 l60 n61 n62 n63 b64 n65) fun n73 => br (!decide (n72 = n73)) (K0 false n46 n47 n48 n49 n50 b51 n52 n53 n54 b55 n56 b57 l58 l59 l60 n61 n62 n63 b64 n65 n23_1 n24 n25 n26 l27 n28 l29 l30 n31 n32 l34 b33 n34) (Lq (IntKind.i64.wrap (n2 + 1)) n46 n47 n48 n49 n50 b51 n52 n53 n54 b55 n56 b57 l58 l59 l60 n61 n62 n63 b64 n65 n23_1 n24 n25 n26 l27 n28 l29 l30 n31 n32 l34 b33 n34))) none) none)))) none) none)) none)) none) (br (decide (n4_1 = 1)) (br (decide (0 <= n2) && decide (n2 < (vs1.length : Int))) (at? vs1 n2.toNat fun x74 => x74.unAgg fun l75 => unCons l75 fun x76 l77 => V.unInt IntKind.i64 x76 fun n78 => unCons l77 fun x79 l80 => V.unInt IntKind.i64 x79 fun n81 => unCons l80 fun x82 l83 => x82.unBytes fun l84 => unNil l83 (bnd9 (s_tSend N l84 n23 n24 n25 n26 n27 l28 n29 vs30 l31 n32 n33 l34 b35 n36) fun l85 n86 l87 n88 l89 l90 n91 n92 b93 => br (decide (0 <= n2) && decide (n2 < (vs1.length : Int))) (at? vs1 n2.toNat fun x94 => x94.unAgg fun l95 => unCons l95 fun x96 l97 => V.unInt IntKind.i64 x96 fun n98 => unCons l97 fun x99 l100 => V.unInt IntKind.i64 x99 fun n101 => unCons l100 fun x102 l103 => x102.unBytes fun l104 => unNil l103 (bnd21 (s_rtSend N n3 n4 n5 n6 n7 b8 n9 n10 n11 b12 n13 b14 l15 vs16 l17 n18 n19 n20 b21 n22 l104) fun n105 n106 n107 n108 n109 b110 n111 n112 n113 b114 n115 b116 l117 l118 l119 n120 n121 n122 b123 n124 l125 => bnd2 (s_tResponse N n23 n24 n25 n26 n86 l87 n88 l89 l90 n91 n92 l34 b93 n36) fun l126 b127 => bnd2 (s_rtResponse N n105 n106 n107 n108 n109 b110 n111 n112 n113 b114 n115 b116 l117 l118 l119 n120 n121 n122 b123 n124) fun l128 b129 => br (decide (l85.length <= 9223372036854775807)) (br (decide (l125.length <= 9223372036854775807)) (br (!decide (l85 = l125)) (K0 false n105 n106 n107 n108 n109 b110 n111 n112 n113 b114 n115 b116 l117 l118 l119 n120 n121 n122 b123 n124 n24 n25 n26 n86 l87 n88 l89 l90 n91 n92 l34 b93 n36) (bnd1 (s_sound N l85 n0) fun b130 => br (!b130) (K0 false n105 n106 n107 n108 n109 b110 n111 n112 n113 b114 n115 b116 l117 l118 l119 n120 n121 n122 b123 n124 n24 n25 n26 n86 l87 n88 l89 l90 n91 n92 l34 b93 n36) (br (!b127 == b129) (K0 false n105 n106 n107 n108 n109 b110 n111 n112 n113 b114 n115 b116 l117 l118 l119 n120 n121 n122 b123 n124 n24 n25 n26 n86 l87 n88 l89 l90 n91 n92 l34 b93 n36) (br (decide (l126.length <= 9223372036854775807)) (br (decide (l128.length <= 9223372036854775807)) (br (!decide (l126 = l128)) (K0 false n105 n106 n107 n108 n109 b110 n111 n112 n113 b114 n115 b116 l117 l118 l119 n120 n121 n122 b123 n124 n24 n25 n26 n86 l87 n88 l89 l90 n91 n92 l34 b93 n36) (bnd1 (s_tFailedS N n24 n36) fun n131 => bnd1 (s_rtFailed N n105 n106 n107 n108 n109 b110 n111 n112 n113 b114 n115 b116 l117 l118 l119 n120 n121 n122 b123 n124) fun n132 => br (!decide (n131 = n132)) (K0 false n105 n106 n107 n108 n109 b110 n111 n112 n113 b114 n115 b116 l117 l118 l119 n120 n121 n122 b123 n124 n24 n25 n26 n86 l87 n88 l89 l90 n91 n92 l34 b93 n36) (Lq (IntKind.i64.wrap (n2 + 1)) n105 n106 n107 n108 n109 b110 n111 n112 n113 b114 n115 b116 l117 l118 l119 n120 n121 n122 b123 n124 n24 n25 n26 n86 l87 n88 l89 l90 n91 n92 l34 b93 n36))) none) none)))) none) none)) none)) none) (br (decide (n4_1 = 2)) (br (decide (0 <= n2) && decide (n2 < (vs1.length : Int))) (at? vs1 n2.toNat fun x133 => x133.unAgg fun l134 => unCons l134 fun x135 l136 => V.unInt IntKind.i64 x135 fun n137 => unCons l136 fun x138 l139 => V.unInt IntKind.i64 x138 fun n140 => unCons l139 fun x141 l142 => x141.unBytes fun l143 => unNil l142 (bnd4 (s_tOffer N n140 n23 n24 n25 n26 n27 l28 n29 vs30 l31 n32 n33 l34 b35 n36) fun l144 n145 n146 l147 => br (decide (0 <= n2) && decide (n2 < (vs1.length : Int))) (at? vs1 n2.toNat fun x148 => x148.unAgg fun l149 => unCons l149 fun x150 l151 => V.unInt IntKind.i64 x150 fun n152 => unCons l151 fun x153 l154 => V.unInt IntKind.i64 x153 fun n155 => unCons l154 fun x156 l157 => x156.unBytes fun l158 => unNil l157 (bnd21 (s_rtOffer N n3 n4 n5 n6 n7 b8 n9 n10 n11 b12 n13 b14 l15 vs16 l17 n18 n19 n20 b21 n22 n155) fun n159 n160 n161 n162 n163 b164 n165 n166 n167 b168 n169 b170 l171 l172 l173 n174 n175 n176 b177 n178 l179 => bnd2 (s_tResponse N n23 n24 n25 n26 n27 l28 n29 vs30 l31 n145 n146 l147 b35 n36) fun l180 b181 => bnd2 (s_rtResponse N n159 n160 n161 n162 n163 b164 n165 n166 n167 b168 n169 b170 l171 l172 l173 n174 n175 n176 b177 n178) fun l182 b183 => br (decide (l144.length <= 9223372036854775807)) (br (decide (l179.length <= 9223372036854775807)) (br (!decide (l144 = l179)) (K0 false n159 n160 n161 n162 n163 b164 n165 n166 n167 b168 n169 b170 l171 l172 l173 n174 n175 n176 b177 n178 n24 n25 n26 n27 l28 n29 vs30 l31 n145 n146 l147 b35 n36) (bnd1 (s_sound N l144 n0) fun b184 => br (!b184) (K0 false n159 n160 n161 n162 n163 b164 n165 n166 n167 b168 n169 b170 l171 l172 l173 n174 n175 n176 b177 n178 n24 n25 n26 n27 l28 n29 vs30 l31 n145 n146 l147 b35 n36) (br (!b181 == b183) (K0 false n159 n160 n161 n162 n163 b164 n165 n166 n167 b168 n169 b170 l171 l172 l173 n174 n175 n176 b177 n178 n24 n25 n26 n27 l28 n29 vs30 l31 n145 n146 l147 b35 n36) (br (decide (l180.length <= 9223372036854775807)) (br (decide (l182.length <= 9223372036854775807)) (br (!decide (l180 = l182)) (K0 false n159 n160 n161 n162 n163 b164 n165 n166 n167 b168 n169 b170 l171 l172 l173 n174 n175 n176 b177 n178 n24 n25 n26 n27 l28 n29 vs30 l31 n145 n146 l147 b35 n36) (bnd1 (s_tFailedS N n24 n36) fun n185 => bnd1 (s_rtFailed N n159 n160 n161 n162 n163 b164 n165 n166 n167 b168 n169 b170 l171 l172 l173 n174 n175 n176 b177 n178) fun n186 => br (!decide (n185 = n186)) (K0 false n159 n160 n161 n162 n163 b164 n165 n166 n167 b168 n169 b170 l171 l172 l173 n174 n175 n176 b177 n178 n24 n25 n26 n27 l28 n29 vs30 l31 n145 n146 l147 b35 n36) (Lq (IntKind.i64.wrap (n2 + 1)) n159 n160 n161 n162 n163 b164 n165 n166 n167 b168 n169 b170 l171 l172 l173 n174 n175 n176 b177 n178 n24 n25 n26 n27 l28 n29 vs30 l31 n145 n146 l147 b35 n36))) none) none)))) none) none)) none)) none) (br (decide (n4_1 = 3)) (bnd4 (s_tTimeout N n23 n24 n25 n26 n27 l28 n29 vs30 l31 n32 n33 l34 b35 n36) fun l187 n188 n189 n190 => bnd21 (s_rtTimeout N n3 n4 n5 n6 n7 b8 n9 n10 n11 b12 n13 b14 l15 vs16 l17 n18 n19 n20 b21 n22) fun n191 n192 n193 n194 n195 b196 n197 n198 n199 b200 n201 b202 l203 l204 l205 n206 n207 n208 b209 n210 l211 => bnd2 (s_tResponse N n23 n24 n25 n26 n27 l28 n29 vs30 l31 n188 n189 l34 b35 n190) fun l212 b213 => bnd2 (s_rtResponse N n191 n192 n193 n194 n195 b196 n197 n198 n199 b200 n201 b202 l203 l204 l205 n206 n207 n208 b209 n210) fun l214 b215 => br (decide (l187.length <= 9223372036854775807)) (br (decide (l211.length <= 9223372036854775807)) (br (!decide (l187 = l211)) (K0 false n191 n192 n193 n194 n195 b196 n197 n198 n199 b200 n201 b202 l203 l204 l205 n206 n207 n208 b209 n210 n24 n25 n26 n27 l28 n29 vs30 l31 n188 n189 l34 b35 n190) (bnd1 (s_sound N l187 n0) fun b216 => br (!b216) (K0 false n191 n192 n193 n194 n195 b196 n197 n198 n199 b200 n201 b202 l203 l204 l205 n206 n207 n208 b209 n210 n24 n25 n26 n27 l28 n29 vs30 l31 n188 n189 l34 b35 n190) (br (!b213 == b215) (K0 false n191 n192 n193 n194 n195 b196 n197 n198 n199 b200 n201 b202 l203 l204 l205 n206 n207 n208 b209 n210 n24 n25 n26 n27 l28 n29 vs30 l31 n188 n189 l34 b35 n190) (br (decide (l212.length <= 9223372036854775807)) (br (decide (l214.length <= 9223372036854775807)) (br (!decide (l212 = l214)) (K0 false n191 n192 n193 n194 n195 b196 n197 n198 n199 b200 n201 b202 l203 l204 l205 n206 n207 n208 b209 n210 n24 n25 n26 n27 l28 n29 vs30 l31 n188 n189 l34 b35 n190) (bnd1 (s_tFailedS N n24 n190) fun n217 => bnd1 (s_rtFailed N n191 n192 n193 n194 n195 b196 n197 n198 n199 b200 n201 b202 l203 l204 l205 n206 n207 n208 b209 n210) fun n218 => br (!decide (n217 = n218)) (K0 false n191 n192 n193 n194 n195 b196 n197 n198 n199 b200 n201 b202 l203 l204 l205 n206 n207 n208 b209 n210 n24 n25 n26 n27 l28 n29 vs30 l31 n188 n189 l34 b35 n190) (Lq (IntKind.i64.wrap (n2 + 1)) n191 n192 n193 n194 n195 b196 n197 n198 n199 b200 n201 b202 l203 l204 l205 n206 n207 n208 b209 n210 n24 n25 n26 n27 l28 n29 vs30 l31 n188 n189 l34 b35 n190))) none) none)))) none) none) (bnd2 (s_tResponse N n23 n24 n25 n26 n27 l28 n29 vs30 l31 n32 n33 l34 b35 n36) fun l219 b220 => bnd2 (s_rtResponse N n3 n4 n5 n6 n7 b8 n9 n10 n11 b12 n13 b14 l15 vs16 l17 n18 n19 n20 b21 n22) fun l221 b222 => bnd1 (s_sound N [] n0) fun b223 => br (!b223) (K0 false n3 n4 n5 n6 n7 b8 n9 n10 n11 b12 n13 b14 l15 vs16 l17 n18 n19 n20 b21 n22 n24 n25 n26 n27 l28 n29 vs30 l31 n32 n33 l34 b35 n36) (br (!b220 == b222) (K0 false n3 n4 n5 n6 n7 b8 n9 n10 n11 b12 n13 b14 l15 vs16 l17 n18 n19 n20 b21 n22 n24 n25 n26 n27 l28 n29 vs30 l31 n32 n33 l34 b35 n36) (br (decide (l219.length <= 9223372036854775807)) (br (decide (l221.length <= 9223372036854775807)) (br (!decide (l219 = l221)) (K0 false n3 n4 n5 n6 n7 b8 n9 n10 n11 b12 n13 b14 l15 vs16 l17 n18 n19 n20 b21 n22 n24 n25 n26 n27 l28 n29 vs30 l31 n32 n33 l34 b35 n36) (bnd1 (s_tFailedS N n24 n36) fun n224 => bnd1 (s_rtFailed N n3 n4 n5 n6 n7 b8 n9 n10 n11 b12 n13 b14 l15 vs16 l17 n18 n19 n20 b21 n22) fun n225 => br (!decide (n224 = n225)) (K0 false n3 n4 n5 n6 n7 b8 n9 n10 n11 b12 n13 b14 l15 vs16 l17 n18 n19 n20 b21 n22 n24 n25 n26 n27 l28 n29 vs30 l31 n32 n33 l34 b35 n36) (Lq (IntKind.i64.wrap (n2 + 1)) n3 n4 n5 n6 n7 b8 n9 n10 n11 b12 n13 b14 l15 vs16 l17 n18 n19 n20 b21 n22 n24 n25 n26 n27 l28 n29 vs30 l31 n32 n33 l34 b35 n36))) none) none)))))))) none) (K1 n3 n4 n5 n6 n7 b8 n9 n10 n11 b12 n13 b14 l15 vs16 l17 n18 n19 n20 b21 n22 n24 n25 n26 n27 l28 n29 vs30 l31 n32 n33 l34 b35 n36)
noncomputable def S_wTerms_10 {R : Type} (N : Nat) (n0 : Int) (vs1 : List V) (n23 : Int) : Nat -> Int -> Int -> Int -> Int -> Int -> Int -> Bool -> Int -> Int -> Int -> Bool -> Int -> Bool -> List UInt8 -> List V -> List UInt8 -> Int -> Int -> Int -> Bool -> Int -> Int -> Int -> Int -> Int -> List UInt8 -> Int -> List V -> List UInt8 -> Int -> Int -> List UInt8 -> Bool -> Int -> (Bool -> Int -> Int -> Int -> Int -> Int -> Bool -> Int -> Int -> Int -> Bool -> Int -> Bool -> List UInt8 -> List V -> List UInt8 -> Int -> Int -> Int -> Bool -> Int -> Int -> Int -> Int -> Int -> List UInt8 -> Int -> List V -> List UInt8 -> Int -> Int -> List UInt8 -> Bool -> Int -> Option R) -> (Int -> Int -> Int -> Int -> Int -> Bool -> Int -> Int -> Int -> Bool -> Int -> Bool -> List UInt8 -> List V -> List UInt8 -> Int -> Int -> Int -> Bool -> Int -> Int -> Int -> Int -> Int -> List UInt8 -> Int -> List V -> List UInt8 -> Int -> Int -> List UInt8 -> Bool -> Int -> Option R) -> Option R | 0, _, _, _, _, _, _, _, _, _, _, _, _, _, _, _, _, _, _, _, _, _, _, _, _, _, _, _, _, _, _, _, _, _, _, _, _ => none | t + 1, n2, n3, n4, n5, n6, n7, b8, n9, n10, n11, b12, n13, b14, l15, vs16, l17, n18, n19, n20, b21, n22, n24, n25, n26, n27, l28, n29, vs30, l31, n32, n33, l34, b35, n36, K0, K1 => F_wTerms_10 N n0 vs1 n23 (fun n2 n3 n4 n5 n6 n7 b8 n9 n10 n11 b12 n13 b14 l15 vs16 l17 n18 n19 n20 b21 n22 n24 n25 n26 n27 l28 n29 vs30 l31 n32 n33 l34 b35 n36 => S_wTerms_10 N n0 vs1 n23 t n2 n3 n4 n5 n6 n7 b8 n9 n10 n11 b12 n13 b14 l15 vs16 l17 n18 n19 n20 b21 n22 n24 n25 n26 n27 l28 n29 vs30 l31 n32 n33 l34 b35 n36 K0 K1) K0 K1 n2 n3 n4 n5 n6 n7 b8 n9 n10 n11 b12 n13 b14 l15 vs16 l17 n18 n19 n20 b21 n22 n24 n25 n26 n27 l28 n29 vs30 l31 n32 n33 l34 b35 n36
noncomputable def l_wTerms_10 {R : Type} (N : Nat) (ds : List D) (m : Mem) (K : Ex -> List D -> Mem -> Option R) : Option R :=
  match ds, m with
  | [(.v (.int .i64 n0) .no), (.v (.sl 38 vs1) .no), (.ptr 0 23 0), (.ptr 0 8 0), (.v (.int .i64 n2) .no), (.ptr 0 23 0)], [[(8, ⟨58, [(.v (.int .i64 n3) .no), (.v (.int .i64 n4) .no), (.v (.int .i64 n5) .no), (.v (.int .i64 n6) .no), (.v (.int .i64 n7) .no), (.v (.bool b8) .no), (.v (.int .i64 n9) .no), (.v (.int .i64 n10) .no), (.v (.int .i64 n11) .no), (.v (.bool b12) .no), (.v (.int .i64 n13) .no), (.v (.bool b14) .no), (.v (.bytes l15) .no), (.v (.sl 27 vs16) .no), (.v (.bytes l17) .no), (.v (.int .i64 n18) .no), (.v (.int .i64 n19) .no), (.v (.int .i64 n20) .no), (.v (.bool b21) .no), (.v (.int .i64 n22) .no)]⟩), (23, ⟨95, [(.v (.int .i64 n23) .no), (.v (.int .i64 n24) .no), (.v (.int .i64 n25) .no), (.v (.int .i64 n26) .no), (.v (.int .i64 n27) .no), (.v (.bytes l28) .no), (.v (.int .i64 n29) .no), (.v (.sl 27 vs30) .no), (.v (.bytes l31) (.own (.slot 0) 5)), (.v (.int .i64 n32) .no), (.v (.int .i64 n33) .no), (.v (.bytes l34) .no), (.v (.bool b35) .no), (.v (.int .i64 n36) .no)]⟩)]] => S_wTerms_10 N n0 vs1 n23 N n2 n3 n4 n5 n6 n7 b8 n9 n10 n11 b12 n13 b14 l15 vs16 l17 n18 n19 n20 b21 n22 n24 n25 n26 n27 l28 n29 vs30 l31 n32 n33 l34 b35 n36 (fun a0 a1 a2 a3 a4 a5 a6 a7 a8 a9 a10 a11 a12 a13 a14 a15 a16 a17 a18 a19 a20 a22 a23 a24 a25 a26 a27 a28 a29 a30 a31 a32 a33 a34 => K .ret [(.v (.bool a0) .no), (.ptr 0 8 0), (.ptr 0 23 0)] [[(8, ⟨58, [(.v (.int .i64 a1) .no), (.v (.int .i64 a2) .no), (.v (.int .i64 a3) .no), (.v (.int .i64 a4) .no), (.v (.int .i64 a5) .no), (.v (.bool a6) .no), (.v (.int .i64 a7) .no), (.v (.int .i64 a8) .no), (.v (.int .i64 a9) .no), (.v (.bool a10) .no), (.v (.int .i64 a11) .no), (.v (.bool a12) .no), (.v (.bytes a13) .no), (.v (.sl 27 a14) .no), (.v (.bytes a15) .no), (.v (.int .i64 a16) .no), (.v (.int .i64 a17) .no), (.v (.int .i64 a18) .no), (.v (.bool a19) .no), (.v (.int .i64 a20) .no)]⟩), (23, ⟨95, [(.v (.int .i64 n23) .no), (.v (.int .i64 a22) .no), (.v (.int .i64 a23) .no), (.v (.int .i64 a24) .no), (.v (.int .i64 a25) .no), (.v (.bytes a26) .no), (.v (.int .i64 a27) .no), (.v (.sl 27 a28) .no), (.v (.bytes a29) (.own (.slot 0) 5)), (.v (.int .i64 a30) .no), (.v (.int .i64 a31) .no), (.v (.bytes a32) .no), (.v (.bool a33) .no), (.v (.int .i64 a34) .no)]⟩)]]) (fun a0 a1 a2 a3 a4 a5 a6 a7 a8 a9 a10 a11 a12 a13 a14 a15 a16 a17 a18 a19 a21 a22 a23 a24 a25 a26 a27 a28 a29 a30 a31 a32 a33 => K (.exit 0) [.any, (.ptr 0 8 0), (.ptr 0 23 0)] [[(8, ⟨58, [(.v (.int .i64 a0) .no), (.v (.int .i64 a1) .no), (.v (.int .i64 a2) .no), (.v (.int .i64 a3) .no), (.v (.int .i64 a4) .no), (.v (.bool a5) .no), (.v (.int .i64 a6) .no), (.v (.int .i64 a7) .no), (.v (.int .i64 a8) .no), (.v (.bool a9) .no), (.v (.int .i64 a10) .no), (.v (.bool a11) .no), (.v (.bytes a12) .no), (.v (.sl 27 a13) .no), (.v (.bytes a14) .no), (.v (.int .i64 a15) .no), (.v (.int .i64 a16) .no), (.v (.int .i64 a17) .no), (.v (.bool a18) .no), (.v (.int .i64 a19) .no)]⟩), (23, ⟨95, [(.v (.int .i64 n23) .no), (.v (.int .i64 a21) .no), (.v (.int .i64 a22) .no), (.v (.int .i64 a23) .no), (.v (.int .i64 a24) .no), (.v (.bytes a25) .no), (.v (.int .i64 a26) .no), (.v (.sl 27 a27) .no), (.v (.bytes a28) (.own (.slot 0) 5)), (.v (.int .i64 a29) .no), (.v (.int .i64 a30) .no), (.v (.bytes a31) .no), (.v (.bool a32) .no), (.v (.int .i64 a33) .no)]⟩)]])
  | _, _ => none
noncomputable def s_wTerms (N : Nat) (x0 x1 : Int) (x2 : List V) : Option (Bool) := bnd1 (s_few N x2) fun b0 => br (!b0) (bnd1 (s_works N) fun b1 => some b1) (bnd1 (s_tNew N x0 x1) fun b2 => br b2 (bnd21 (s_rNewTerm N x0 x1) fun n3 n4 n5 n6 n7 b8 n9 n10 n11 b12 n13 b14 l15 l16 l17 n18 n19 n20 b21 n22 b23 => br (!b23) (some false) (S_wTerms_10 N x1 x2 x1 N 0 n3 n4 n5 n6 n7 b8 n9 n10 n11 b12 n13 b14 l15 l16 l17 n18 n19 n20 b21 n22 32 x0 0 0 [] 0 [] [] 0 0 [] false 0 (fun b24 n25 n26 n27 n28 n29 b30 n31 n32 n33 b34 n35 b36 l37 l38 l39 n40 n41 n42 b43 n44 n45 n46 n47 n48 l49 n50 l51 l52 n53 n54 l55 b56 n57 => some b24) fun n58 n59 n60 n61 n62 b63 n64 n65 n66 b67 n68 b69 l70 l71 l72 n73 n74 n75 b76 n77 n78 n79 n80 n81 l82 n83 l84 l85 n86 n87 l88 b89 n90 => bnd1 (s_works N) fun b91 => some b91)) (bnd21 (s_rNewTerm N x0 x1) fun n92 n93 n94 n95 n96 b97 n98 n99 n100 b101 n102 b103 l104 l105 l106 n107 n108 n109 b110 n111 b112 => br (!b112) (bnd1 (s_works N) fun b113 => some b113) (some false)))
noncomputable def cx_wTerms (N : Nat) : Cx := { T := T, isPure := tabP [⟨9, e_few (s_few N)⟩, ⟨10, e_works (s_works N)⟩, ⟨30, e_rNewTerm (s_rNewTerm N)⟩, ⟨31, e_rtReceive (s_rtReceive N)⟩, ⟨32, e_rtSend (s_rtSend N)⟩, ⟨34, e_rtOffer (s_rtOffer N)⟩, ⟨35, e_rtTimeout (s_rtTimeout N)⟩, ⟨36, e_rtResponse (s_rtResponse N)⟩, ⟨21, e_sound (s_sound N)⟩, ⟨37, e_rtFailed (s_rtFailed N)⟩], pureK := fun g ds K => tabK [⟨9, e_few (s_few N)⟩, ⟨10, e_works (s_works N)⟩, ⟨30, e_rNewTerm (s_rNewTerm N)⟩, ⟨31, e_rtReceive (s_rtReceive N)⟩, ⟨32, e_rtSend (s_rtSend N)⟩, ⟨34, e_rtOffer (s_rtOffer N)⟩, ⟨35, e_rtTimeout (s_rtTimeout N)⟩, ⟨36, e_rtResponse (s_rtResponse N)⟩, ⟨21, e_sound (s_sound N)⟩, ⟨37, e_rtFailed (s_rtFailed N)⟩] g ds K, memK := fun g dst ds m K => tabMK [⟨23, e_tNew (s_tNew N)⟩, ⟨27, e_tReceive (s_tReceive N)⟩, ⟨24, e_tSend (s_tSend N)⟩, ⟨33, e_tOffer (s_tOffer N)⟩, ⟨26, e_tTimeout (s_tTimeout N)⟩, ⟨29, e_tResponse (s_tResponse N)⟩] g dst ds m K, meth := tabM [], keep := fun r => match r with | 10 => [1, 2, 7, 8, 10, 23] | _ => [], keepX := fun r => match r with | 10 => [6, 8, 23] | _ => [], loopT := fun r ds m K => match r with | 10 => l_wTerms_10 N ds m K | _ => none, jumps := 9, isStill := tabQ [⟨28, e_tFailedS (s_tFailedS N)⟩], stillK := fun g ds m K => tabSK [⟨28, e_tFailedS (s_tFailedS N)⟩] g ds m K }
theorem F_wTerms_10_ok {R : Type} (N : Nat) (n0 : Int) (vs1 : List V) (n23 n2 n3 n4 n5 n6 n7 : Int) (b8 : Bool) (n9 n10 n11 : Int) (b12 : Bool) (n13 : Int) (b14 : Bool) (l15 : List UInt8) (vs16 : List V) (l17 : List UInt8) (n18 n19 n20 : Int) (b21 : Bool) (n22 n24 n25 n26 n27 : Int) (l28 : List UInt8) (n29 : Int) (vs30 : List V) (l31 : List UInt8) (n32 n33 : Int) (l34 : List UInt8) (b35 : Bool) (n36 : Int) (L : List D -> Mem -> Option R) (K : Ex -> List D -> Mem -> Option R) :
    roundK (fun st K => codeK (cx_wTerms N) (loopN Try.f5 0) st K) 157 [1, 2, 7, 8, 10, 23] [6, 8, 23] L [(dI n0), (.v (.sl 38 vs1) .no), (.ptr 0 23 0), (.ptr 0 8 0), (dI n2), (.ptr 0 23 0)] [[(8, ⟨58, [(dI n3), (dI n4), (dI n5), (dI n6), (dI n7), (dB b8), (dI n9), (dI n10), (dI n11), (dB b12), (dI n13), (dB b14), (dY l15), (.v (.sl 27 vs16) .no), (dY l17), (dI n18), (dI n19), (dI n20), (dB b21), (dI n22)]⟩), (23, ⟨95, [(dI n23), (dI n24), (dI n25), (dI n26), (dI n27), (dY l28), (dI n29), (.v (.sl 27 vs30) .no), (.v (.bytes l31) (.own (.slot 0) 5)), (dI n32), (dI n33), (dY l34), (dB b35), (dI n36)]⟩)]] K = F_wTerms_10 N n0 vs1 n23 (fun n2 n3 n4 n5 n6 n7 b8 n9 n10 n11 b12 n13 b14 l15 vs16 l17 n18 n19 n20 b21 n22 n24 n25 n26 n27 l28 n29 vs30 l31 n32 n33 l34 b35 n36 => L [(dI n0), (.v (.sl 38 vs1) .no), (.ptr 0 23 0), (.ptr 0 8 0), (dI n2), (.ptr 0 23 0)] [[(8, ⟨58, [(dI n3), (dI n4), (dI n5), (dI n6), (dI n7), (dB b8), (dI n9), (dI n10), (dI n11), (dB b12), (dI n13), (dB b14), (dY l15), (.v (.sl 27 vs16) .no), (dY l17), (dI n18), (dI n19), (dI n20), (dB b21), (dI n22)]⟩), (23, ⟨95, [(dI n23), (dI n24), (dI n25), (dI n26), (dI n27), (dY l28), (dI n29), (.v (.sl 27 vs30) .no), (.v (.bytes l31) (.own (.slot 0) 5)), (dI n32), (dI n33), (dY l34), (dB b35), (dI n36)]⟩)]]) (fun a0 a1 a2 a3 a4 a5 a6 a7 a8 a9 a10 a11 a12 a13 a14 a15 a16 a17 a18 a19 a20 a22 a23 a24 a25 a26 a27 a28 a29 a30 a31 a32 a33 a34 => K .ret [(dB a0), (.ptr 0 8 0), (.ptr 0 23 0)] [[(8, ⟨58, [(dI a1), (dI a2), (dI a3), (dI a4), (dI a5), (dB a6), (dI a7), (dI a8), (dI a9), (dB a10), (dI a11), (dB a12), (dY a13), (.v (.sl 27 a14) .no), (dY a15), (dI a16), (dI a17), (dI a18), (dB a19), (dI a20)]⟩), (23, ⟨95, [(dI n23), (dI a22), (dI a23), (dI a24), (dI a25), (dY a26), (dI a27), (.v (.sl 27 a28) .no), (.v (.bytes a29) (.own (.slot 0) 5)), (dI a30), (dI a31), (dY a32), (dB a33), (dI a34)]⟩)]]) (fun a0 a1 a2 a3 a4 a5 a6 a7 a8 a9 a10 a11 a12 a13 a14 a15 a16 a17 a18 a19 a21 a22 a23 a24 a25 a26 a27 a28 a29 a30 a31 a32 a33 => K (.exit 0) [.any, (.ptr 0 8 0), (.ptr 0 23 0)] [[(8, ⟨58, [(dI a0), (dI a1), (dI a2), (dI a3), (dI a4), (dB a5), (dI a6), (dI a7), (dI a8), (dB a9), (dI a10), (dB a11), (dY a12), (.v (.sl 27 a13) .no), (dY a14), (dI a15), (dI a16), (dI a17), (dB a18), (dI a19)]⟩), (23, ⟨95, [(dI n23), (dI a21), (dI a22), (dI a23), (dI a24), (dY a25), (dI a26), (.v (.sl 27 a27) .no), (.v (.bytes a28) (.own (.slot 0) 5)), (dI a29), (dI a30), (dY a31), (dB a32), (dI a33)]⟩)]]) n2 n3 n4 n5 n6 n7 b8 n9 n10 n11 b12 n13 b14 l15 vs16 l17 n18 n19 n20 b21 n22 n24 n25 n26 n27 l28 n29 vs30 l31 n32 n33 l34 b35 n36 := by
  kernel_rfl
theorem S_wTerms_10_ok {R : Type} (N : Nat) (n0 : Int) (vs1 : List V) (n23 : Int) (K : Ex -> List D -> Mem -> Option R) : ∀ (t : Nat) (n2 n3 n4 n5 n6 n7 : Int) (b8 : Bool) (n9 n10 n11 : Int) (b12 : Bool) (n13 : Int) (b14 : Bool) (l15 : List UInt8) (vs16 : List V) (l17 : List UInt8) (n18 n19 n20 : Int) (b21 : Bool) (n22 n24 n25 n26 n27 : Int) (l28 : List UInt8) (n29 : Int) (vs30 : List V) (l31 : List UInt8) (n32 n33 : Int) (l34 : List UInt8) (b35 : Bool) (n36 : Int),
    loopK (fun st K => codeK (cx_wTerms N) (loopN Try.f5 0) st K) 157 [1, 2, 7, 8, 10, 23] [6, 8, 23] t [(dI n0), (.v (.sl 38 vs1) .no), (.ptr 0 23 0), (.ptr 0 8 0), (dI n2), (.ptr 0 23 0)] [[(8, ⟨58, [(dI n3), (dI n4), (dI n5), (dI n6), (dI n7), (dB b8), (dI n9), (dI n10), (dI n11), (dB b12), (dI n13), (dB b14), (dY l15), (.v (.sl 27 vs16) .no), (dY l17), (dI n18), (dI n19), (dI n20), (dB b21), (dI n22)]⟩), (23, ⟨95, [(dI n23), (dI n24), (dI n25), (dI n26), (dI n27), (dY l28), (dI n29), (.v (.sl 27 vs30) .no), (.v (.bytes l31) (.own (.slot 0) 5)), (dI n32), (dI n33), (dY l34), (dB b35), (dI n36)]⟩)]] K = S_wTerms_10 N n0 vs1 n23 t n2 n3 n4 n5 n6 n7 b8 n9 n10 n11 b12 n13 b14 l15 vs16 l17 n18 n19 n20 b21 n22 n24 n25 n26 n27 l28 n29 vs30 l31 n32 n33 l34 b35 n36 (fun a0 a1 a2 a3 a4 a5 a6 a7 a8 a9 a10 a11 a12 a13 a14 a15 a16 a17 a18 a19 a20 a22 a23 a24 a25 a26 a27 a28 a29 a30 a31 a32 a33 a34 => K .ret [(dB a0), (.ptr 0 8 0), (.ptr 0 23 0)] [[(8, ⟨58, [(dI a1), (dI a2), (dI a3), (dI a4), (dI a5), (dB a6), (dI a7), (dI a8), (dI a9), (dB a10), (dI a11), (dB a12), (dY a13), (.v (.sl 27 a14) .no), (dY a15), (dI a16), (dI a17), (dI a18), (dB a19), (dI a20)]⟩), (23, ⟨95, [(dI n23), (dI a22), (dI a23), (dI a24), (dI a25), (dY a26), (dI a27), (.v (.sl 27 a28) .no), (.v (.bytes a29) (.own (.slot 0) 5)), (dI a30), (dI a31), (dY a32), (dB a33), (dI a34)]⟩)]]) (fun a0 a1 a2 a3 a4 a5 a6 a7 a8 a9 a10 a11 a12 a13 a14 a15 a16 a17 a18 a19 a21 a22 a23 a24 a25 a26 a27 a28 a29 a30 a31 a32 a33 => K (.exit 0) [.any, (.ptr 0 8 0), (.ptr 0 23 0)] [[(8, ⟨58, [(dI a0), (dI a1), (dI a2), (dI a3), (dI a4), (dB a5), (dI a6), (dI a7), (dI a8), (dB a9), (dI a10), (dB a11), (dY a12), (.v (.sl 27 a13) .no), (dY a14), (dI a15), (dI a16), (dI a17), (dB a18), (dI a19)]⟩), (23, ⟨95, [(dI n23), (dI a21), (dI a22), (dI a23), (dI a24), (dY a25), (dI a26), (.v (.sl 27 a27) .no), (.v (.bytes a28) (.own (.slot 0) 5)), (dI a29), (dI a30), (dY a31), (dB a32), (dI a33)]⟩)]])
  | 0, n2, n3, n4, n5, n6, n7, b8, n9, n10, n11, b12, n13, b14, l15, vs16, l17, n18, n19, n20, b21, n22, n24, n25, n26, n27, l28, n29, vs30, l31, n32, n33, l34, b35, n36 => rfl
  | t + 1, n2, n3, n4, n5, n6, n7, b8, n9, n10, n11, b12, n13, b14, l15, vs16, l17, n18, n19, n20, b21, n22, n24, n25, n26, n27, l28, n29, vs30, l31, n32, n33, l34, b35, n36 => (F_wTerms_10_ok N n0 vs1 n23 n2 n3 n4 n5 n6 n7 b8 n9 n10 n11 b12 n13 b14 l15 vs16 l17 n18 n19 n20 b21 n22 n24 n25 n26 n27 l28 n29 vs30 l31 n32 n33 l34 b35 n36 _ K).trans (congrArg (fun L => F_wTerms_10 N n0 vs1 n23 L (fun a0 a1 a2 a3 a4 a5 a6 a7 a8 a9 a10 a11 a12 a13 a14 a15 a16 a17 a18 a19 a20 a22 a23 a24 a25 a26 a27 a28 a29 a30 a31 a32 a33 a34 => K .ret [(dB a0), (.ptr 0 8 0), (.ptr 0 23 0)] [[(8, ⟨58, [(dI a1), (dI a2), (dI a3), (dI a4), (dI a5), (dB a6), (dI a7), (dI a8), (dI a9), (dB a10), (dI a11), (dB a12), (dY a13), (.v (.sl 27 a14) .no), (dY a15), (dI a16), (dI a17), (dI a18), (dB a19), (dI a20)]⟩), (23, ⟨95, [(dI n23), (dI a22), (dI a23), (dI a24), (dI a25), (dY a26), (dI a27), (.v (.sl 27 a28) .no), (.v (.bytes a29) (.own (.slot 0) 5)), (dI a30), (dI a31), (dY a32), (dB a33), (dI a34)]⟩)]]) (fun a0 a1 a2 a3 a4 a5 a6 a7 a8 a9 a10 a11 a12 a13 a14 a15 a16 a17 a18 a19 a21 a22 a23 a24 a25 a26 a27 a28 a29 a30 a31 a32 a33 => K (.exit 0) [.any, (.ptr 0 8 0), (.ptr 0 23 0)] [[(8, ⟨58, [(dI a0), (dI a1), (dI a2), (dI a3), (dI a4), (dB a5), (dI a6), (dI a7), (dI a8), (dB a9), (dI a10), (dB a11), (dY a12), (.v (.sl 27 a13) .no), (dY a14), (dI a15), (dI a16), (dI a17), (dB a18), (dI a19)]⟩), (23, ⟨95, [(dI n23), (dI a21), (dI a22), (dI a23), (dI a24), (dY a25), (dI a26), (.v (.sl 27 a27) .no), (.v (.bytes a28) (.own (.slot 0) 5)), (dI a29), (dI a30), (dY a31), (dB a32), (dI a33)]⟩)]]) n2 n3 n4 n5 n6 n7 b8 n9 n10 n11 b12 n13 b14 l15 vs16 l17 n18 n19 n20 b21 n22 n24 n25 n26 n27 l28 n29 vs30 l31 n32 n33 l34 b35 n36) (funext fun n2 => funext fun n3 => funext fun n4 => funext fun n5 => funext fun n6 => funext fun n7 => funext fun b8 => funext fun n9 => funext fun n10 => funext fun n11 => funext fun b12 => funext fun n13 => funext fun b14 => funext fun l15 => funext fun vs16 => funext fun l17 => funext fun n18 => funext fun n19 => funext fun n20 => funext fun b21 => funext fun n22 => funext fun n24 => funext fun n25 => funext fun n26 => funext fun n27 => funext fun l28 => funext fun n29 => funext fun vs30 => funext fun l31 => funext fun n32 => funext fun n33 => funext fun l34 => funext fun b35 => funext fun n36 => S_wTerms_10_ok N n0 vs1 n23 K t n2 n3 n4 n5 n6 n7 b8 n9 n10 n11 b12 n13 b14 l15 vs16 l17 n18 n19 n20 b21 n22 n24 n25 n26 n27 l28 n29 vs30 l31 n32 n33 l34 b35 n36))
theorem s_wTerms_ok (N : Nat) (x0 x1 x2 : _) : bodyK (cx_wTerms N) Try.f5 [dI x0, dI x1, .v (.sl 38 x2) .no] [] r_valid = s_wTerms N x0 x1 x2 := by
  kernel_rfl
theorem co_wTerms (N : Nat) : CxOK Try.prog (cx_wTerms N) :=
  cxOK_of3 (es := [⟨9, e_few (s_few N)⟩, ⟨10, e_works (s_works N)⟩, ⟨30, e_rNewTerm (s_rNewTerm N)⟩, ⟨31, e_rtReceive (s_rtReceive N)⟩, ⟨32, e_rtSend (s_rtSend N)⟩, ⟨34, e_rtOffer (s_rtOffer N)⟩, ⟨35, e_rtTimeout (s_rtTimeout N)⟩, ⟨36, e_rtResponse (s_rtResponse N)⟩, ⟨21, e_sound (s_sound N)⟩, ⟨37, e_rtFailed (s_rtFailed N)⟩]) (me := [⟨23, e_tNew (s_tNew N)⟩, ⟨27, e_tReceive (s_tReceive N)⟩, ⟨24, e_tSend (s_tSend N)⟩, ⟨33, e_tOffer (s_tOffer N)⟩, ⟨26, e_tTimeout (s_tTimeout N)⟩, ⟨29, e_tResponse (s_tResponse N)⟩]) (ms := []) (ss := [⟨28, e_tFailedS (s_tFailedS N)⟩]) T_ok ⟨eo_few _ (p_few N), eo_works _ (p_works N), eo_rNewTerm _ (p_rNewTerm N), eo_rtReceive _ (p_rtReceive N), eo_rtSend _ (p_rtSend N), eo_rtOffer _ (p_rtOffer N), eo_rtTimeout _ (p_rtTimeout N), eo_rtResponse _ (p_rtResponse N), eo_sound _ (p_sound N), eo_rtFailed _ (p_rtFailed N), trivial⟩ ⟨eo_tNew _ (p_tNew N), eo_tReceive _ (p_tReceive N), eo_tSend _ (p_tSend N), eo_tOffer _ (p_tOffer N), eo_tTimeout _ (p_tTimeout N), eo_tResponse _ (p_tResponse N), trivial⟩ trivial ⟨eo_tFailedS _ (p_tFailedS N), trivial⟩ rfl (fun _ _ _ _ => rfl) (fun _ _ _ _ _ _ => rfl) rfl (fun _ _ _ _ _ => rfl)
theorem lk_wTerms_10 (N : Nat) : LoopOK (cx_wTerms N) 157 (loopN Try.f5 0) := by
  refine loopOK_of (rid := 10) (by kernel_rfl) rfl rfl fun R ds m K r h => ?_
  have h : l_wTerms_10 N ds m K = some r := h
  unfold l_wTerms_10 at h
  split at h
  . exact ⟨N, Eq.trans (S_wTerms_10_ok ..) h⟩
  . cases h
theorem lo_wTerms (N : Nat) : LoopsOK (cx_wTerms N) Try.f5.ntmps (bodyOf Try.f5) :=
  loopsOK_of (k := 1) (by kernel_rfl) ⟨trivial, lk_wTerms_10 N⟩
theorem p_wTerms (N : Nat) (x0 x1 : Int) (x2 : List V) (r0 : Bool) (h : s_wTerms N x0 x1 x2 = some r0) : PureRet Try.prog T 5 [dI x0, dI x1, .v (.sl 38 x2) .no] [dB r0] :=
  pure_of (cx := cx_wTerms N) (by kernel_rfl) (co_wTerms N) Try.func5 (by kernel_rfl) (by kernel_rfl) (lo_wTerms N) rfl rfl rfl (rf := r_valid) ((s_wTerms_ok ..).trans h) (fun rs' m h => by
    unfold r_valid at h
    split at h
    . cases h; exact ⟨rfl, rfl⟩
    . cases h)
end Go.Proofs.Ytilfphdeacogmaa.En

/- The printed functions, together. -/

/- Chapter 08: sides that are made, few calls, what is sent is sound, the examples. -/
namespace Go.Proofs.Ytilfphdeacogmaa.En
open Go
set_option linter.unusedVariables false
def sideB (ifs sum : Int) : Bool := decide (1 <= ifs /\ ifs <= 254 /\ (sum = 0 ∨ sum = 1))
def c0 (ifs sum : Int) : Cd := ⟨⟨sum, ifs, 32, 0, 0, false, blZ, [], []⟩, 0, 0⟩
def t0 (ifs sum : Int) : Tm := ⟨⟨sum, 32, ifs, 0, 0, false, blZ, [], []⟩, 0, 0, 0, false, 0⟩
theorem c0_ok {ifs sum : Int} (h : sideB ifs sum = true) : CdOK (c0 ifs sum) := by
  unfold sideB at h
  obtain ⟨h1, h2, h3⟩ := of_decide_eq_true h
  exact ⟨⟨h3, ⟨h1, h2⟩, by simp [c0], .inl rfl, .inl rfl, (show blZ.chk = 0 by decide), .inl rfl, by simp [c0], by simp [c0]⟩, .inl rfl, by simp [c0], by simp [c0], by simp [c0], by simp [c0]⟩
theorem t0_ok {ifs sum : Int} (h : sideB ifs sum = true) : TmOK (t0 ifs sum) := by
  unfold sideB at h
  obtain ⟨h1, h2, h3⟩ := of_decide_eq_true h
  exact ⟨⟨h3, by simp [t0], ⟨h1, h2⟩, .inl rfl, .inl rfl, (show blZ.chk = 0 by decide), .inl rfl, by simp [t0], by simp [t0]⟩, .inl rfl, by simp [t0], by simp [t0], by simp [t0], by simp [t0], by simp [t0], by simp [t0], by simp [t0]⟩
section
variable (N : Nat)
theorem valid_eq (ifs sum : Int) : s_valid N ifs sum = some (sideB ifs sum) := by
  have hs : s_cSize N sum = some (if sum = 0 then 1 else if sum = 1 then 2 else 0) := by
    unfold s_cSize; simp only [br_dec]; repeat' split
    all_goals rfl
  unfold s_valid sideB
  rw [hs, bnd1_mk]
  simp only [br_dec]
  by_cases h1 : 1 <= ifs
  . by_cases h2 : ifs <= 254
    . by_cases h3 : sum = 0
      . simp [h1, h2, h3]
      . by_cases h4 : sum = 1 <;> simp [h1, h2, h3, h4]
    . simp [h1, h2]
  . simp [h1]
theorem cNew_eq (ifs sum : Int) : s_cNew N ifs sum = some (sideB ifs sum) := valid_eq N ifs sum
theorem tNew_eq (ifs sum : Int) : s_tNew N ifs sum = some (sideB ifs sum) := valid_eq N ifs sum
theorem rright_eq (ifs sum : Int) : s_rright N ifs sum = some (sideB ifs sum) := by
  unfold s_rright sideB
  simp only [br_dec]
  by_cases h1 : 1 <= ifs
  . by_cases h2 : ifs <= 254
    . by_cases h3 : sum = 0
      . simp [h1, h2, h3]
      . by_cases h4 : sum = 1 <;> simp [h1, h2, h3, h4]
    . simp [h1, h2]
  . simp [h1]
theorem sound_eq {b : List UInt8} {sum : Int} (hb : b.length <= 900000) (h : b = [] ∨ decE sum b = 0) : s_sound N b sum = some true := by
  have hd : s_rDecode6 N b sum = some (dNad sum b, dKind sum b, dSeq sum b, dMore sum b, dCode sum b, dAns sum b, dInf sum b, decE sum b) := by
    unfold s_rDecode6; rw [br_dec, if_pos hb]
  unfold s_sound
  rw [hd, bnd8_mk, br_dec]
  rcases h with rfl | h
  . rfl
  . rw [h]; split <;> rfl
theorem out_sound {k : Int} (hk : k = 0 ∨ k = 1) {o : Option Bl} (h : OutOK o) : (outB k o).length <= 300 /\ (outB k o = [] ∨ decE k (outB k o) = 0) := by
  cases o with
  | none => exact ⟨by simp [outB], .inl rfl⟩
  | some b => exact ⟨(enc_pos hk (h b rfl)).2, .inr (dec_of hk (h b rfl)).1⟩
structure OpP where
  kind : Int
  n : Int
  b : List UInt8
def opV (o : OpP) : V := .agg [.int .i64 o.kind, .int .i64 o.n, .bytes o.b]
def opE (l : List OpP) : List V := l.map opV
theorem opE_len (l : List OpP) : (opE l).length = l.length := List.length_map _
def fewB (l : List OpP) : Bool := decide (l.length <= 150) && l.all fun o => decide (o.b.length <= 700)
theorem few_loop {R : Type} (K0 : Bool -> Option R) (K1 : Option R) : ∀ (l : List OpP) (pre : List V) (t : Nat), l.length < t -> pre.length + l.length <= 9223372036854775807 ->
    S_few_4 N (pre ++ opE l) t (pre.length : Int) K0 K1 = if (l.all fun o => decide (o.b.length <= 700)) = true then K1 else K0 false
  | l, pre, 0, ht, _ => by omega
  | [], pre, t + 1, ht, _ => by
    unfold S_few_4 F_few_4
    have : ¬ ((pre.length : Int) < ((pre ++ opE []).length : Int)) := by simp [opE]
    rw [br_dec, if_neg this]; simp
  | o :: l, pre, t + 1, ht, hl => by
    simp only [List.length_cons] at ht hl
    have ih := few_loop K0 K1 l (pre ++ [opV o]) t (by omega) (by simp; omega)
    have e : pre ++ opE (o :: l) = (pre ++ [opV o]) ++ opE l := by simp [opE]
    have h1 : (pre.length : Int) < ((pre ++ opE (o :: l)).length : Int) := by simp [opE]; omega
    have h2 : ∀ K : V -> Option R, at? (pre ++ opE (o :: l)) pre.length K = K (opV o) := fun K => at_mid pre (opV o) (opE l) K
    have h3 : IntKind.i64.wrap ((pre.length : Int) + 1) = (((pre ++ [opV o]).length : Nat) : Int) := by rw [w64 (by omega) (by omega)]; simp
    rw [← e, ← h3] at ih
    unfold S_few_4 F_few_4
    simp only [br_dec, br_and, h1, if_true, Int.toNat_natCast, h2, opV, unAgg_mk, unCons_mk, unInt_mk, unBytes_mk, unNil_mk, ih]
    rw [if_pos (by omega)]
    by_cases hc : o.b.length <= 700
    . rw [if_neg (by omega)]; simp [hc]
    . rw [if_pos (by omega)]; simp [hc]
theorem few_eq (l : List OpP) (hN : 200 < N) : s_few N (opE l) = some (fewB l) := by
  unfold s_few fewB
  rw [opE_len, br_dec]
  by_cases h : l.length <= 150
  . have := few_loop N (fun b0 => some b0) (some true) l [] N (by omega) (by simp; omega)
    simp only [List.nil_append, List.length_nil] at this
    rw [if_neg (by omega), decide_eq_true h, Bool.true_and]
    refine this.trans ?_
    cases (l.all fun o => decide (o.b.length <= 700)) <;> rfl
  . rw [if_pos (by omega), decide_eq_false h]; rfl
set_option maxRecDepth 100000 in
theorem works_eq (hN : 10 < N) : s_works N = some true := by
  have ho : sideB 32 0 = true := by decide
  have k0 := c0_ok ho
  have q0 := t0_ok ho
  have q1 := (tSend_ok q0 [0, 164, 0, 0, 2]).1
  have hr1 := rx_range (c0 32 0).s [0, 0, 5, 0, 164, 0, 0, 2, 163]
  have k1 := (cRecv_ok k0 hr1.1 (fun h => (hr1.2 h).1)).1
  have hr2 := rx_range ((tSendF (t0 32 0) [0, 164, 0, 0, 2]).1).s [0, 0, 2, 144, 0, 146]
  have q2 := (tRecv_ok q1 hr2.1 (fun h => (hr2.2 h).1)).1
  have h1 : s_tSend N [UInt8.ofNat (Int.toNat 0), UInt8.ofNat (Int.toNat 164), UInt8.ofNat (Int.toNat 0), UInt8.ofNat (Int.toNat 0), UInt8.ofNat (Int.toNat 2)] 0 32 32 0 0 [] 0 [] [] 0 0 [] false 0 = some ([0, 0, 5, 0, 164, 0, 0, 2, 163], 1, [0, 0, 5, 0, 164, 0, 0, 2, 163], 0, [], [], 2, 0, false) :=
    (show _ = onT (t0 32 0) (s_tSend N [0, 164, 0, 0, 2]) by kernel_rfl).trans ((tSend_eq N q0 [0, 164, 0, 0, 2] (by simp; omega) (by simp)).trans (by kernel_rfl))
  have h2 : s_cReceive N [0, 0, 5, 0, 164, 0, 0, 2, 163] 0 32 32 0 0 [] 0 [] [] 0 [] = some ([], 32, 1, 0, [], 0, [], [0, 164, 0, 0, 2], 2) :=
    (show _ = onC (c0 32 0) (s_cReceive N [0, 0, 5, 0, 164, 0, 0, 2, 163]) by kernel_rfl).trans ((cReceive_eq N k0 _ (by simp)).trans (by kernel_rfl))
  have h3 : s_cCommand N 0 32 32 1 0 [] 0 [] [0, 164, 0, 0, 2] 2 [] = some ([0, 164, 0, 0, 2], true) :=
    (show _ = onC (cRecvF (c0 32 0) (rx (c0 32 0).s [0, 0, 5, 0, 164, 0, 0, 2, 163]).1 (rx (c0 32 0).s [0, 0, 5, 0, 164, 0, 0, 2, 163]).2).1 (s_cCommand N) by kernel_rfl).trans ((cCommand_eq N k1).trans (by kernel_rfl))
  have h4 : s_cReply N [UInt8.ofNat (Int.toNat 144), UInt8.ofNat (Int.toNat 0)] 0 32 32 1 0 [] 0 [] [0, 164, 0, 0, 2] 2 [] = some ([0, 0, 2, 144, 0, 146], 1, [0, 0, 2, 144, 0, 146], 0, [], 4) :=
    (show _ = onC (cRecvF (c0 32 0) (rx (c0 32 0).s [0, 0, 5, 0, 164, 0, 0, 2, 163]).1 (rx (c0 32 0).s [0, 0, 5, 0, 164, 0, 0, 2, 163]).2).1 (s_cReply N [144, 0]) by kernel_rfl).trans ((cReply_eq N k1 [144, 0] (by simp; omega) (by simp)).trans (by kernel_rfl))
  have h5 : s_tReceive N [0, 0, 2, 144, 0, 146] 0 32 32 0 1 [0, 0, 5, 0, 164, 0, 0, 2, 163] 0 [] [] 2 0 [] false 0 = some ([], 32, 32, 1, 1, [0, 0, 5, 0, 164, 0, 0, 2, 163], 0, [], [144, 0], 0, 0, true, 0) :=
    (show _ = onT (tSendF (t0 32 0) [0, 164, 0, 0, 2]).1 (s_tReceive N [0, 0, 2, 144, 0, 146]) by kernel_rfl).trans ((tReceive_eq N q1 _ (by simp)).trans (by kernel_rfl))
  have h6 : s_tResponse N 0 32 32 1 1 [0, 0, 5, 0, 164, 0, 0, 2, 163] 0 [] [144, 0] 0 0 [] true 0 = some ([144, 0], true) :=
    (show _ = onT (tRecvF (tSendF (t0 32 0) [0, 164, 0, 0, 2]).1 (rx (tSendF (t0 32 0) [0, 164, 0, 0, 2]).1.s [0, 0, 2, 144, 0, 146]).1 (rx (tSendF (t0 32 0) [0, 164, 0, 0, 2]).1.s [0, 0, 2, 144, 0, 146]).2).1 (s_tResponse N) by kernel_rfl).trans ((tResp_eq N q2).trans (by kernel_rfl))
  have h7 : s_tSend N [UInt8.ofNat (Int.toNat 1)] 0 32 32 1 1 [0, 0, 5, 0, 164, 0, 0, 2, 163] 0 [] [144, 0] 0 0 [] true 0 = some ([0, 64, 1, 1, 64], 0, [0, 64, 1, 1, 64], 1, [], [], 2, 0, false) :=
    (show _ = onT (tRecvF (tSendF (t0 32 0) [0, 164, 0, 0, 2]).1 (rx (tSendF (t0 32 0) [0, 164, 0, 0, 2]).1.s [0, 0, 2, 144, 0, 146]).1 (rx (tSendF (t0 32 0) [0, 164, 0, 0, 2]).1.s [0, 0, 2, 144, 0, 146]).2).1 (s_tSend N [1]) by kernel_rfl).trans ((tSend_eq N q2 [1] (by simp; omega) (by simp)).trans (by kernel_rfl))
  unfold s_works
  rw [tNew_eq, cNew_eq, ho]
  simp only [bnd1_mk, br_t, h1, bnd9_mk, h2, h3, bnd2_mk, h4, bnd6_mk, h5, bnd13_mk, h6, h7]
  rfl
end
end Go.Proofs.Ytilfphdeacogmaa.En

/- Chapter 08: the statements about the card's side and the terminal's side. -/
namespace Go.Proofs.Ytilfphdeacogmaa.En
open Go
set_option linter.unusedVariables false
theorem offB_same {t t' : Tm} (h : t'.offered = t.offered) : offB t' = offB t := by unfold offB; rw [h]
theorem tRecv_same (t : Tm) (x : Bl) (r : Int) : (tRecvF t x r).1.s.sum = t.s.sum /\ (tRecvF t x r).1.offered = t.offered := by
  unfold tRecvF tInfoF tAgainF tSuperF tFailF tFailureF
  repeat' split
  all_goals simp [piece_same]
theorem tSend_same (t : Tm) (b : List UInt8) : (tSendF t b).1.s.sum = t.s.sum /\ (tSendF t b).1.s.own = t.s.own /\ (tSendF t b).1.s.other = t.s.other /\ (tSendF t b).1.s.expect = t.s.expect /\ (tSendF t b).1.offered = t.offered /\ (tSendF t b).1.cause = t.cause := by
  unfold tSendF sendF
  split <;> simp [piece_same]
theorem tOffer_same (t : Tm) (n : Int) : (tOfferF t n).1.s = t.s /\ (tOfferF t n).1.done = t.done /\ (tOfferF t n).1.cause = t.cause := by
  unfold tOfferF
  split <;> exact ⟨rfl, rfl, rfl⟩
theorem tTime_same (t : Tm) : (tTimeF t).1.s = t.s /\ (tTimeF t).1.done = t.done /\ (tTimeF t).1.offered = t.offered := by
  unfold tTimeF tFailureF
  repeat' split
  all_goals exact ⟨rfl, rfl, rfl⟩
section
variable (N : Nat)
theorem resp_len {t : Tm} (h : TmOK t) : (tRespF t).1.length <= 9223372036854775807 := by
  have := h.s.inn
  unfold tRespF
  split <;> simp <;> omega
theorem failS_eq {t : Tm} (h : TmOK t) : s_tFailedS N t.s.own t.cause = some t.cause := by
  have := h.s.own
  unfold s_tFailedS
  rw [br_dec, if_pos (by omega)]
set_option maxHeartbeats 8000000 in
theorem wTerms_loop {R : Type} (Kc : Option R) (K0 : Bool -> Int -> Int -> Int -> Int -> Int -> Bool -> Int -> Int -> Int -> Bool -> Int -> Bool -> List UInt8 -> List V -> List UInt8 -> Int -> Int -> Int -> Bool -> Int -> Int -> Int -> Int -> Int -> List UInt8 -> Int -> List V -> List UInt8 -> Int -> Int -> List UInt8 -> Bool -> Int -> Option R) : ∀ (l : List OpP) (pre : List V) (t : Nat) (c : Tm) (sum : Int), TmOK c -> c.s.sum = sum -> (∀ o ∈ l, o.b.length <= 700) -> 1000 < N -> l.length < t -> pre.length + l.length <= 1000000 ->
    S_wTerms_10 N sum (pre ++ opE l) sum t (pre.length : Int) c.s.sum c.s.own c.s.other c.s.expect c.s.next c.s.has c.s.sent.nad c.s.sent.kind c.s.sent.seq c.s.sent.more c.s.sent.code c.s.sent.ans c.s.sent.inf (pcs c.s.pieces) c.s.inn (stR c.state) c.offered c.fails c.done c.cause c.s.own c.s.other c.s.expect c.s.next (sentB c.s) c.s.sent.seq (pcs c.s.pieces) c.s.inn c.state c.fails (offB c) c.done c.cause K0 (fun _ _ _ _ _ _ _ _ _ _ _ _ _ _ _ _ _ _ _ _ _ _ _ _ _ _ _ _ _ _ _ _ _ => Kc) = Kc
  | l, pre, 0, c, _, _, _, _, _, ht, _ => by omega
  | [], pre, t + 1, c, _, _, _, _, _, _, _ => by
    have : ¬ ((pre.length : Int) < ((pre ++ opE []).length : Int)) := by simp [opE]
    unfold S_wTerms_10 F_wTerms_10
    rw [br_dec, if_neg this]
  | o :: l, pre, t + 1, c, sum, hc, e0, hb, hN, ht, hl => by
    simp only [List.length_cons] at ht hl
    subst e0
    have hbo := hb o (by simp)
    have IH := fun (c' : Tm) (hc' : TmOK c') (q0 : c'.s.sum = c.s.sum) => wTerms_loop Kc K0 l (pre ++ [opV o]) t c' c.s.sum hc' q0 (fun o' ho' => hb o' (by simp [ho'])) hN (by omega) (by simp; omega)
    have e : pre ++ opE (o :: l) = (pre ++ [opV o]) ++ opE l := by simp [opE]
    have h1 : (pre.length : Int) < ((pre ++ opE (o :: l)).length : Int) := by simp [opE]; omega
    have h1' : (0 : Int) <= (pre.length : Int) := by omega
    have h2 : ∀ {α : Type} (K : V -> Option α), at? (pre ++ opE (o :: l)) pre.length K = K (opV o) := fun K => at_mid pre (opV o) (opE l) K
    have h3 : IntKind.i64.wrap ((pre.length : Int) + 1) = (((pre ++ [opV o]).length : Nat) : Int) := by rw [w64 (by omega) (by omega)]; simp
    rw [← e, ← h3] at IH
    have hw : ∀ (b : Bool) (x y : Option R), br (!(b == b)) x y = y := fun b x y => by cases b <;> rfl
    have hsum := hc.s.sum
    unfold S_wTerms_10 F_wTerms_10
    simp only [br_and, br_dec, h1, h1', if_true, Int.toNat_natCast, h2, opV, unAgg_mk, unCons_mk, unInt_mk, unBytes_mk, unNil_mk]
    by_cases k0 : o.kind = 0
    . obtain ⟨hrr, hrx⟩ := rx_range c.s o.b
      obtain ⟨ok, oo⟩ := tRecv_ok hc hrr (fun h => (hrx h).1)
      obtain ⟨ol, os⟩ := out_sound hsum oo
      obtain ⟨q0, q1⟩ := tRecv_same c (rx c.s o.b).1 (rx c.s o.b).2
      have hp := tReceive_eq N hc o.b (by omega)
      have hr := rtReceive_eq N hc o.b (by omega)
      generalize tRecvF c (rx c.s o.b).1 (rx c.s o.b).2 = cc at *
      obtain ⟨c', oc⟩ := cc
      simp only at *
      have hso := sound_eq N (sum := c.s.sum) (show (outB c.s.sum oc).length <= 900000 by omega) os
      have hol : (outB c.s.sum oc).length <= 9223372036854775807 := by omega
      have hcl := resp_len ok
      have hC := tResp_eq N ok
      have hR := rtResp_eq N c'
      have ih := IH c' ok q0
      have hq := offB_same q1
      unfold onT at hp hC
      unfold onR onS at hr hR
      unfold tT at hr
      have hF := failS_eq N ok
      have hG := rtFailed_eq N ok
      unfold onR onS at hG
      rw [show tRespF c' = ((tRespF c').1, (tRespF c').2) from rfl] at hC hR
      simp only [q0, hq] at hC hR ih hr hp hF hG ⊢
      simp only [k0, if_true, if_false, hp, hr, hC, hR, hF, hG, hso, bnd13_mk, bnd21_mk, bnd2_mk, bnd1_mk, br_not, br_dec, hol, hcl, br_t, beq_self_eq_true, h2, opV, unAgg_mk, unCons_mk, unInt_mk, unBytes_mk, unNil_mk, h1, h1', br_and]
      exact ih
    by_cases k1 : o.kind = 1
    . obtain ⟨ok, oo⟩ := tSend_ok hc o.b
      obtain ⟨ol, os⟩ := out_sound hsum oo
      obtain ⟨q0, q1, q2, q3, q4, q5⟩ := tSend_same c o.b
      have hp := tSend_eq N hc o.b (by omega) (by omega)
      have hr := rtSend_eq N hc o.b (by omega) (by omega)
      generalize tSendF c o.b = cc at *
      obtain ⟨c', oc⟩ := cc
      simp only at *
      have hso := sound_eq N (sum := c.s.sum) (show (outB c.s.sum oc).length <= 900000 by omega) os
      have hol : (outB c.s.sum oc).length <= 9223372036854775807 := by omega
      have hcl := resp_len ok
      have hC := tResp_eq N ok
      have hR := rtResp_eq N c'
      have ih := IH c' ok q0
      have hq := offB_same q4
      unfold onT at hp hC
      unfold onR onS at hr hR
      unfold tT at hr
      have hF := failS_eq N ok
      have hG := rtFailed_eq N ok
      unfold onR onS at hG
      rw [show tRespF c' = ((tRespF c').1, (tRespF c').2) from rfl] at hC hR
      simp only [q0, q1, q2, q3, q5, hq] at hC hR ih hr hp hF hG ⊢
      simp only [if_neg k0, k1, if_true, if_false, hp, hr, hC, hR, hF, hG, hso, bnd9_mk, bnd21_mk, bnd2_mk, bnd1_mk, br_not, br_dec, hol, hcl, br_t, beq_self_eq_true, h2, opV, unAgg_mk, unCons_mk, unInt_mk, unBytes_mk, unNil_mk, h1, h1', br_and]
      exact ih
    by_cases k2 : o.kind = 2
    . obtain ⟨ok, oo⟩ := tOffer_ok hc o.n
      obtain ⟨ol, os⟩ := out_sound hsum oo
      obtain ⟨q0, q1, q2⟩ := tOffer_same c o.n
      have hp := tOffer_eq N hc o.n
      have hr := rtOffer_eq N hc o.n
      generalize tOfferF c o.n = cc at *
      obtain ⟨c', oc⟩ := cc
      simp only at *
      have hso := sound_eq N (sum := c.s.sum) (show (outB c.s.sum oc).length <= 900000 by omega) os
      have hol : (outB c.s.sum oc).length <= 9223372036854775807 := by omega
      have hcl := resp_len ok
      have hC := tResp_eq N ok
      have hR := rtResp_eq N c'
      have ih := IH c' ok (by rw [q0])
      skip
      unfold onT at hp hC
      unfold onR onS at hr hR
      unfold tT at hr
      have hF := failS_eq N ok
      have hG := rtFailed_eq N ok
      unfold onR onS at hG
      rw [show tRespF c' = ((tRespF c').1, (tRespF c').2) from rfl] at hC hR
      simp only [q0, q1, q2] at hC hR ih hr hp hF hG ⊢
      simp only [if_neg k0, if_neg k1, k2, if_true, if_false, hp, hr, hC, hR, hF, hG, hso, bnd4_mk, bnd21_mk, bnd2_mk, bnd1_mk, br_not, br_dec, hol, hcl, br_t, beq_self_eq_true, h2, opV, unAgg_mk, unCons_mk, unInt_mk, unBytes_mk, unNil_mk, h1, h1', br_and]
      exact ih
    by_cases k3 : o.kind = 3
    . obtain ⟨ok, oo⟩ := tTime_ok hc
      obtain ⟨ol, os⟩ := out_sound hsum oo
      obtain ⟨q0, q1, q2⟩ := tTime_same c
      have hp := tTime_eq N hc
      have hr := rtTime_eq N hc
      generalize tTimeF c = cc at *
      obtain ⟨c', oc⟩ := cc
      simp only at *
      have hso := sound_eq N (sum := c.s.sum) (show (outB c.s.sum oc).length <= 900000 by omega) os
      have hol : (outB c.s.sum oc).length <= 9223372036854775807 := by omega
      have hcl := resp_len ok
      have hC := tResp_eq N ok
      have hR := rtResp_eq N c'
      have ih := IH c' ok (by rw [q0])
      have hq := offB_same q2
      unfold onT at hp hC
      unfold onR onS at hr hR
      unfold tT at hr
      have hF := failS_eq N ok
      have hG := rtFailed_eq N ok
      unfold onR onS at hG
      rw [show tRespF c' = ((tRespF c').1, (tRespF c').2) from rfl] at hC hR
      simp only [q0, q1, hq] at hC hR ih hr hp hF hG ⊢
      simp only [if_neg k0, if_neg k1, if_neg k2, k3, if_true, if_false, hp, hr, hC, hR, hF, hG, hso, bnd4_mk, bnd21_mk, bnd2_mk, bnd1_mk, br_not, br_dec, hol, hcl, br_t, beq_self_eq_true, h2, opV, unAgg_mk, unCons_mk, unInt_mk, unBytes_mk, unNil_mk, h1, h1', br_and]
      exact ih
    have hso := sound_eq N (b := []) (sum := c.s.sum) (by simp) (.inl rfl)
    have hcl := resp_len hc
    have hC := tResp_eq N hc
    have hR := rtResp_eq N c
    have hF := failS_eq N hc
    have hG := rtFailed_eq N hc
    have ih := IH c hc rfl
    unfold onT at hC
    unfold onR onS at hR hG
    rw [show tRespF c = ((tRespF c).1, (tRespF c).2) from rfl] at hC hR
    simp only [if_neg k0, if_neg k1, if_neg k2, if_neg k3, if_true, if_false, hC, hR, hF, hG, hso, bnd2_mk, bnd1_mk, br_not, br_dec, hcl, br_t, beq_self_eq_true]
    exact ih
theorem wTerms_eq (hN : 1000 < N) (ifs sum : Int) (l : List OpP) : s_wTerms N ifs sum (opE l) = some true := by
  unfold s_wTerms
  rw [few_eq N l (by omega), bnd1_mk, br_not, works_eq N (by omega)]
  cases hf : fewB l with
  | false => rfl
  | true =>
    unfold fewB at hf
    simp only [Bool.and_eq_true, decide_eq_true_eq, List.all_eq_true] at hf
    have hR : s_rNewTerm N ifs sum = if sideB ifs sum = true then some (sum, 32, ifs, 0, 0, false, 0, 0, 0, false, 0, false, [], [], [], 0, 0, 0, false, 0, true) else some (0, 0, 0, 0, 0, false, 0, 0, 0, false, 0, false, [], [], [], 0, 0, 0, false, 0, false) := by
      unfold s_rNewTerm
      rw [rright_eq, bnd1_mk, br_not]
      cases sideB ifs sum <;> rfl
    rw [tNew_eq, hR, bnd1_mk, br_t]
    cases hs : sideB ifs sum with
    | false => rfl
    | true =>
      simp only [br_t, if_true, bnd21_mk, br_not, bnd1_mk]
      exact wTerms_loop N (some true) _ l [] N (t0 ifs sum) sum (t0_ok hs) rfl hf.2 hN (by omega) (by simp; omega)
end
end Go.Proofs.Ytilfphdeacogmaa.En

/- Functions of the program in plain Lean, joined to the program by evaluation; printed by a program. -/
namespace Go.Proofs.Ytilfphdeacogmaa.En
open Go Go.Proofs
set_option maxRecDepth 100000
set_option maxHeartbeats 8000000
set_option linter.unusedVariables false
end Go.Proofs.Ytilfphdeacogmaa.En

/- The printed functions, together. -/

/- Chapter 08: the statements about a terminal that gives up, and about sides that are nil. -/
namespace Go.Proofs.Ytilfphdeacogmaa.En
open Go
set_option linter.unusedVariables false
section
variable (N : Nat)
end
end Go.Proofs.Ytilfphdeacogmaa.En

/- The engine, part 2r: what an argument that came in reads as. No program in sight. -/
namespace Go.Proofs.Ytilfphdeacogmaa.En
open Go Go.RowKit
set_option linter.unusedVariables false
def immG (T : TypeId -> Option Ty) : G := { Γ := fun _ => .imm, J := fun _ _ => 0, sz := sizes T }
theorem stable_imm (T : TypeId -> Option Ty) (b o : Nat) : Stable (immG T) b o := trivial
def mkEl (row : Bool) (cs : List V) : V := match row with | true => .agg cs | false => cs.headD .nilI
def FitsFs (F : TypeId -> List V -> Prop) : List Field -> List V -> Prop
  | [], xs => xs = []
  | f :: fs, xs => ∃ a r, xs = a ++ r /\ F f.type a /\ FitsFs F fs r
def Fits (T : TypeId -> Option Ty) : Nat -> TypeId -> List V -> Prop
  | 0, _, _ => False
  | n + 1, t, xs => match T t with
    | none => False
    | some ty => match ty.desc with
      | .bool => ∃ b, xs = [.bool b]
      | .int k => ∃ i, xs = [.int k i] /\ k.min <= i /\ i <= k.max
      | .string => ∃ s, xs = [.str s] /\ s.length <= maxLen
      | .slice e => match ty.cks with
        | [.bytes _] => ∃ s, xs = [.bytes s] /\ s.length <= maxLen
        | [.slc e'] => e' = e /\ ∃ ys, xs = [.sl e ys] /\ ys.length <= maxLen /\ ∀ y ∈ ys, ∃ te cs, T e = some te /\ y = mkEl te.row cs /\ Fits T n e cs
        | _ => False
      | .struct fs => FitsFs (Fits T n) fs.toList xs
      | _ => False
def readable (T : TypeId -> Option Ty) (t : TypeId) : Bool :=
  match T t with
  | none => false
  | some ty => match ty.desc with
    | .bool => true
    | .int _ => true
    | .string => true
    | .slice e => (match T e with
      | none => false
      | some te => (match ty.cks with
        | [.bytes _] => (match te.desc with | .int .u8 => Nat.beq te.size 1 | _ => false)
        | [.slc e'] => Nat.beq e' e && Nat.ble 1 te.size && (match te.row with | true => true | false => Nat.beq te.size 1)
        | _ => false))
    | .struct fs => contigT T ty.size 0 fs.toList && fs.toList.all (fun f => match T f.type with | some _ => true | none => false)
    | _ => false
def closedT (T : TypeId -> Option Ty) (l : List TypeId) : Bool :=
  l.all fun t => readable T t && (match T t with
    | none => false
    | some ty => match ty.desc with
      | .slice e => l.any (Nat.beq e)
      | .struct fs => fs.toList.all fun f => l.any (Nat.beq f.type)
      | _ => true)
section
variable {H : Type} {enc : TypeId × Value -> H} {P : Program} {T : TypeId -> Option Ty} {w : World} {base : Nat} {spare : Nat -> Bool} {held : Bool}
structure RepC (T : TypeId -> Option Ty) (w : World) (xs : List V) (cs : List Value) : Prop where
  len : xs.length = cs.length
  one : ∀ x ∈ xs, x.one = true
  rep : ∀ (k : Nat) y, xs[k]? = some y -> RepV (immG T) w y (cs.getD k undef)
theorem RepC.single {x : V} {v : Value} (h1 : x.one = true) (h : RepV (immG T) w x v) : RepC T w [x] [v] :=
  ⟨rfl, fun y hy => by simp at hy; subst hy; exact h1, fun k y hk => by
    rcases k with _ | k
    . simp at hk; subst hk; simpa using h
    . simp at hk⟩
theorem RepC.append {xs ys : List V} {cs ds : List Value} (h : RepC T w xs cs) (k : RepC T w ys ds) : RepC T w (xs ++ ys) (cs ++ ds) := by
  refine ⟨by simp [h.len, k.len], fun x hx => ?_, fun i y hy => ?_⟩
  . rcases List.mem_append.1 hx with hx | hx
    . exact h.one x hx
    . exact k.one x hx
  . rcases Nat.lt_or_ge i xs.length with hl | hl
    . rw [List.getElem?_append_left hl] at hy
      have := h.rep i y hy
      rw [List.getD_eq_getElem?_getD, List.getElem?_append_left (by rw [← h.len]; exact hl), ← List.getD_eq_getElem?_getD]
      exact this
    . rw [List.getElem?_append_right hl] at hy
      have := k.rep _ y hy
      rw [List.getD_eq_getElem?_getD, List.getElem?_append_right (by rw [← h.len]; exact hl), ← h.len, ← List.getD_eq_getElem?_getD]
      exact this
theorem cellsOf_eq (hT : TypesOK P T) {t : TypeId} {ty : Ty} (h : T t = some ty) : P.cellsOf t = ty.size := by
  obtain ⟨i, h1, _, h2, _⟩ := (hT t ty h).info
  simp [Program.cellsOf, h1, h2]
theorem sizes_eq {t : TypeId} {ty : Ty} (h : T t = some ty) : sizes T t = ty.size := by unfold sizes; rw [h]
theorem add_none (b off i : Nat) : (⟨b, off, none⟩ : Addr).add i = ⟨b, off + i, none⟩ := by
  unfold Addr.add
  by_cases h0 : i = 0
  . subst h0; rfl
  . rw [if_neg h0]
theorem spot_row {a : Addr} {n k : Nat} {cs : List Value} (h : w.cells? base (a.add (0 * n)) k = some cs) (hk : 0 < k) : a.spot = none := by
  obtain ⟨_, hl, h5⟩ := World.cells?_some h
  have h6 := h5 0 hk
  rw [List.getElem?_eq_getElem (by omega)] at h6
  have := World.cell?_spot h6
  simpa [Addr.add] using this
theorem mkEl_cells {row : Bool} {cs : List V} (ho : ∀ x ∈ cs, x.one = true) (h : row = false -> cs.length = 1) : (mkEl row cs).cells = cs := by
  cases row with
  | true => rfl
  | false =>
    have := h rfl
    match cs, this with
    | [x], _ =>
      have := ho x (by simp)
      show V.cells x = [x]
      cases x <;> first | rfl | cases this
theorem okEl_mk {row : Bool} {cs : List V} {n : Nat} (hl : cs.length = n) (ho : ∀ x ∈ cs, x.one = true) (h : row = false -> cs.length = 1) : okEl n (mkEl row cs) = true := by
  unfold okEl
  rw [mkEl_cells ho h]
  simp only [Bool.and_eq_true, beq_iff_eq, List.all_eq_true]
  exact ⟨hl, ho⟩
theorem flatT_get {α : Type} {n : Nat} : ∀ (l : List (List α)) (i j : Nat) (c : List α), (∀ c ∈ l, c.length = n) -> l[i]? = some c -> j < n -> l.flatten[i * n + j]? = c[j]?
  | [], i, j, c, _, h, _ => by simp at h
  | d :: l, 0, j, c, hl, h, hj => by
    simp at h; subst h
    have := hl d (by simp)
    rw [List.flatten_cons, Nat.zero_mul, Nat.zero_add, List.getElem?_append_left (by omega)]
  | d :: l, i + 1, j, c, hl, h, hj => by
    have hd := hl d (by simp)
    rw [List.flatten_cons, Nat.succ_mul, List.getElem?_append_right (by omega)]
    rw [show i * n + n + j - d.length = i * n + j by omega]
    exact flatT_get l i j c (fun c hc => hl c (by simp [hc])) (by simpa using h) hj
theorem flatT_len {α : Type} {n : Nat} : ∀ (l : List (List α)), (∀ c ∈ l, c.length = n) -> l.flatten.length = l.length * n
  | [], _ => by simp
  | d :: l, h => by
    rw [List.flatten_cons, List.length_append, h d (by simp), flatT_len l fun c hc => h c (by simp [hc]), List.length_cons, Nat.succ_mul]; omega
theorem choose_list {α : Type} {p : Nat -> α -> Prop} : ∀ (n : Nat), (∀ i, i < n -> ∃ a, p i a) -> ∃ l : List α, l.length = n /\ ∀ (i : Nat) a, l[i]? = some a -> p i a
  | 0, _ => ⟨[], rfl, fun i a h => by simp at h⟩
  | n + 1, h => by
    obtain ⟨l, h1, h2⟩ := choose_list n fun i hi => h i (by omega)
    obtain ⟨a, ha⟩ := h n (by omega)
    refine ⟨l ++ [a], by simp [h1], fun i b hb => ?_⟩
    rcases Nat.lt_or_ge i l.length with hl | hl
    . rw [List.getElem?_append_left hl] at hb; exact h2 i b hb
    . rw [List.getElem?_append_right hl] at hb
      have : i = n := by
        have := (List.getElem?_eq_some_iff.1 hb).1
        simp at this; omega
      subst this
      rw [h1] at hb
      simp at hb
      subst hb; exact ha
theorem trod_rep (hT : TypesOK P T) {l : List TypeId} (hl : closedT T l = true) : ∀ (fuel : Nat) (t : TypeId) (cs : List Value) (x : DataW H × List MemPlace), t ∈ l -> DataW.trod enc P w base spare held fuel t cs = some x ->
    ∃ xs, RepC T w xs cs /\ Fits T fuel t xs /\ ∀ ty, T t = some ty -> cs.length = ty.size
  | 0, t, cs, x, _, h => by simp [DataW.trod] at h
  | n + 1, t, cs, x, hm, h => by
    have hcl := List.all_eq_true.1 hl t hm
    simp only [Bool.and_eq_true] at hcl
    obtain ⟨hre, hlead⟩ := hcl
    unfold Fits
    unfold readable at hre
    cases hTt : T t with
    | none => rw [hTt] at hre; simp at hre
    | some ty =>
    rw [hTt] at hre hlead
    simp only at hre hlead ⊢
    have hd := (hT t ty hTt).desc
    have h1c : ty.row = false -> ty.size = 1 := (hT t ty hTt).one
    cases hdesc : ty.desc <;> rw [hdesc] at hre hlead hd <;> simp only [Bool.false_eq_true] at hre hlead ⊢
    . obtain ⟨b, rfl, _⟩ := DataW.trod_bool hd h
      exact ⟨[.bool b], .single rfl (.bool b), ⟨b, rfl⟩, fun ty' e => by cases e; rw [h1c (by simp [Ty.row, hdesc])]; rfl⟩
    . rename_i k
      obtain ⟨i, rfl, _, hwf⟩ := DataW.trod_int hd h
      have hb : k.min <= i /\ i <= k.max := by simpa [Lit.wf] using hwf
      exact ⟨[.int k i], .single rfl (.int k i hb), ⟨i, rfl, hb⟩, fun ty' e => by cases e; rw [h1c (by simp [Ty.row, hdesc])]; rfl⟩
    . obtain ⟨s, rfl, _, hs⟩ := DataW.trod_string hd h
      have e : s = ⟨s.data.toList.toArray⟩ := by cases s; simp
      have hsl : s.data.toList.length = s.size := by cases s; rfl
      refine ⟨[.str s.data.toList], .single rfl ?_, ⟨_, rfl, by rw [hsl]; exact hs⟩, fun ty' e => by cases e; rw [h1c (by simp [Ty.row, hdesc])]; rfl⟩
      have := RepV.str (g := immG T) (w := w) s.data.toList (by rw [hsl]; unfold maxLen at hs; omega)
      rwa [← e] at this
    . rename_i e
      cases hTe : T e with
      | none => rw [hTe] at hre; simp at hre
      | some te =>
      rw [hTe] at hre
      simp only at hre
      have hsz := cellsOf_eq hT hTe
      have hmem : e ∈ l := by
        obtain ⟨z, hz, hb⟩ := List.any_eq_true.1 hlead
        have := Nat.eq_of_beq_eq_true hb
        subst this; exact hz
      have hsize : ∀ ty', some ty = some ty' -> ∀ v : Value, [v].length = ty'.size := fun ty' e v => by cases e; rw [h1c (by simp [Ty.row, hdesc])]; rfl
      split at hre
      . rename_i e0 hcks
        split at hre
        . rename_i hte
          have hte1 := Nat.eq_of_beq_eq_true hre
          rw [hte1] at hsz
          have hde := (hT e te hTe).desc
          rw [hte] at hde
          rcases DataW.trod_slice hd h with ⟨rfl, _⟩ | ⟨a, len, cap, elems, rest, m, e1, rfl, _, hb, hlc, hcm, hel, hget, _, _⟩
          . exact ⟨[.bytes []], .single rfl (.bytes [] none 0 0 rfl (Nat.le_refl _) (by simp) (fun k x hx => by simp at hx)), ⟨[], rfl, by simp⟩, fun ty' e => hsize ty' e _⟩
          . have key : ∀ i, i < len -> ∃ b : UInt8, ∃ bb off, a = ⟨bb, off, none⟩ /\ w.cell? ⟨bb, off + i, none⟩ = some (.int .u8 (b.toNat : Int)) := by
              intro i hi
              have h2 := hget i hi
              rw [List.getElem?_eq_getElem (by rw [hel]; exact hi), Option.bind_eq_some_iff] at h2
              obtain ⟨cs, h3, h4⟩ := h2
              obtain ⟨z, rfl, _, hwf⟩ := DataW.trod_int hde h4
              rw [hsz, Nat.mul_one] at h3
              obtain ⟨_, _, h5⟩ := World.cells?_some h3
              have h6 := h5 0 (by omega)
              simp at h6
              have hzr : 0 <= z /\ z <= 255 := by simpa [Lit.wf, IntKind.min, IntKind.max, IntKind.signed, IntKind.bits] using hwf
              have hspn : a.spot = none := by
                have h2 := hget 0 (by omega)
                rw [List.getElem?_eq_getElem (by omega), Option.bind_eq_some_iff] at h2
                obtain ⟨cs, h3, _⟩ := h2
                exact spot_row h3 (by omega)
              obtain ⟨bb, off, sp⟩ := a
              simp only at hspn
              subst hspn
              refine ⟨UInt8.ofNat z.toNat, bb, off, rfl, ?_⟩
              rw [add_none] at h6
              have hz2 : (off + i + 0) = off + i := rfl
              rw [show ((UInt8.ofNat z.toNat).toNat : Int) = z by rw [UInt8.toNat_ofNat', Nat.mod_eq_of_lt (by omega)]; omega]
              simpa [Addr.add] using h6
            obtain ⟨bs, b1, b2⟩ := choose_list len key
            refine ⟨[.bytes bs], .single rfl (.bytes bs (some a) len cap b1 hlc hcm fun k x hx => ?_), ⟨bs, rfl, by omega⟩, fun ty' e => hsize ty' e _⟩
            obtain ⟨bb, off, c1, c2⟩ := b2 k x hx
            exact ⟨bb, off, by rw [c1], stable_imm T _ _, c2⟩
        . cases hre
      . rename_i e0 hcks
        simp only [Bool.and_eq_true] at hre
        obtain ⟨⟨he0, hte1⟩, hrow⟩ := hre
        have he0 := Nat.eq_of_beq_eq_true he0
        have hte1 := Nat.le_of_ble_eq_true hte1
        have hrow1 : te.row = false -> te.size = 1 := (hT e te hTe).one
        have hszs : (immG T).sz e = te.size := sizes_eq hTe
        rcases DataW.trod_slice hd h with ⟨rfl, _⟩ | ⟨a, len, cap, elems, rest, m, e1, rfl, _, hb, hlc, hcm, hel, hget, _, _⟩
        . exact ⟨[.sl e []], .single rfl (.sl e [] none 0 0 (fun _ => undef) rfl (Nat.le_refl _) (by simp) (by simp) (fun k y hy => by simp at hy) (fun k y hy => by simp at hy)), ⟨he0, [], rfl, by simp, by simp⟩, fun ty' e => hsize ty' e _⟩
        . obtain rfl : n = m := by omega
          have key : ∀ i, i < len -> ∃ p : List V × List Value, RepC T w p.1 p.2 /\ Fits T n e p.1 /\ p.2.length = te.size /\ ∃ bb off, a = ⟨bb, off, none⟩ /\ ∀ j, j < te.size -> w.cell? ⟨bb, off + (i * te.size + j), none⟩ = some (p.2.getD j undef) := by
            intro i hi
            have h2 := hget i hi
            rw [List.getElem?_eq_getElem (by rw [hel]; exact hi), Option.bind_eq_some_iff] at h2
            obtain ⟨cs, h3, h4⟩ := h2
            obtain ⟨xs, c1, c2, c3⟩ := trod_rep hT hl n e cs _ hmem h4
            have c3 := c3 te hTe
            rw [hsz] at h3
            obtain ⟨_, _, h5⟩ := World.cells?_some h3
            have hspn : a.spot = none := by
              have h2 := hget 0 (by omega)
              rw [List.getElem?_eq_getElem (by omega), Option.bind_eq_some_iff] at h2
              obtain ⟨cs, h3, _⟩ := h2
              exact spot_row h3 (by omega)
            obtain ⟨bb, off, sp⟩ := a
            simp only at hspn
            subst hspn
            refine ⟨(xs, cs), c1, c2, c3, bb, off, rfl, fun j hj => ?_⟩
            have h7 := h5 j hj
            rw [add_none, add_none, Nat.add_assoc] at h7
            rw [h7, List.getD_eq_getElem?_getD]
            show cs[j]? = some (cs[j]?.getD undef)
            rw [List.getElem?_eq_getElem (by omega)]; rfl
          obtain ⟨ps, b1, b2⟩ := choose_list len key
          have hxl : ∀ p ∈ ps, p.1.length = te.size /\ ∀ x ∈ p.1, x.one = true := by
            intro p hp
            obtain ⟨i, hi⟩ := List.getElem?_of_mem hp
            obtain ⟨c1, _, c3, _⟩ := b2 i p hi
            exact ⟨by rw [c1.len, c3], c1.one⟩
          have hcells : ∀ p ∈ ps, (mkEl te.row p.1).cells = p.1 := fun p hp => mkEl_cells (hxl p hp).2 fun hr => by rw [(hxl p hp).1, hrow1 hr]
          have hflat : (ps.map fun p => mkEl te.row p.1).flatMap V.cells = (ps.map (·.1)).flatten := by
            rw [List.flatMap_def, List.map_map]
            congr 1
            exact List.map_congr_left fun p hp => hcells p hp
          have hall : ∀ c ∈ ps.map (·.1), c.length = te.size := fun c hc => by
            obtain ⟨p, hp, rfl⟩ := List.mem_map.1 hc
            exact (hxl p hp).1
          have hlook : ∀ (k : Nat) (y : V), ((ps.map fun p => mkEl te.row p.1).flatMap V.cells)[k]? = some y -> ∃ i j p, k = i * te.size + j /\ j < te.size /\ ps[i]? = some p /\ p.1[j]? = some y := by
            intro k y hk
            rw [hflat] at hk
            have hk1 := (List.getElem?_eq_some_iff.1 hk).1
            rw [flatT_len _ hall, List.length_map, b1] at hk1
            have hpos : 0 < te.size := by omega
            have hi : k / te.size < len := (Nat.div_lt_iff_lt_mul hpos).2 hk1
            have hj : k % te.size < te.size := Nat.mod_lt _ hpos
            have hkk : k = k / te.size * te.size + k % te.size := by rw [Nat.mul_comm]; exact (Nat.div_add_mod k te.size).symm
            have hp : ps[k / te.size]? = some (ps[k / te.size]'(by omega)) := List.getElem?_eq_getElem (by omega)
            refine ⟨k / te.size, k % te.size, _, hkk, hj, hp, ?_⟩
            rw [hkk] at hk
            rw [flatT_get _ _ _ _ hall (by rw [List.getElem?_map, hp]; rfl) hj] at hk
            exact hk
          refine ⟨[.sl e (ps.map fun p => mkEl te.row p.1)], .single rfl (.sl e _ (some a) len cap (fun k => ((ps.map (·.2)).flatten).getD k undef) (by simp [b1]) hlc hcm (fun x hx => ?_) (fun k y hk => ?_) (fun k y hk => ?_)), ⟨he0, _, rfl, by simp [b1]; omega, fun y hy => ?_⟩, fun ty' e => hsize ty' e _⟩
          . obtain ⟨p, hp, rfl⟩ := List.mem_map.1 hx
            rw [hszs]
            exact okEl_mk (hxl p hp).1 (hxl p hp).2 fun hr => by rw [(hxl p hp).1, hrow1 hr]
          . obtain ⟨i, j, p, rfl, hj, hp, hy⟩ := hlook k y hk
            obtain ⟨_, _, c3, bb, off, c4, c5⟩ := b2 i p hp
            refine ⟨bb, off, by rw [c4], stable_imm T _ _, ?_⟩
            rw [c5 j hj]
            have : (ps.map (·.2)).flatten[i * te.size + j]? = p.2[j]? := flatT_get _ _ _ _ (fun c hc => by
              obtain ⟨q, hq, rfl⟩ := List.mem_map.1 hc
              obtain ⟨i', hi'⟩ := List.getElem?_of_mem hq
              exact (b2 i' q hi').2.2.1) (by rw [List.getElem?_map, hp]; rfl) hj
            rw [List.getD_eq_getElem?_getD, List.getD_eq_getElem?_getD, this]
          . obtain ⟨i, j, p, rfl, hj, hp, hy⟩ := hlook k y hk
            obtain ⟨c1, _, c3, _⟩ := b2 i p hp
            have : (ps.map (·.2)).flatten[i * te.size + j]? = p.2[j]? := flatT_get _ _ _ _ (fun c hc => by
              obtain ⟨q, hq, rfl⟩ := List.mem_map.1 hc
              obtain ⟨i', hi'⟩ := List.getElem?_of_mem hq
              exact (b2 i' q hi').2.2.1) (by rw [List.getElem?_map, hp]; rfl) hj
            have := c1.rep j y hy
            rw [List.getD_eq_getElem?_getD] at this ⊢
            rwa [‹(ps.map (·.2)).flatten[i * te.size + j]? = p.2[j]?›]
          . obtain ⟨p, hp, rfl⟩ := List.mem_map.1 hy
            obtain ⟨i, hi⟩ := List.getElem?_of_mem hp
            exact ⟨te, p.1, rfl, rfl, (b2 i p hi).2.1⟩
      . cases hre
    . rename_i fs
      simp only [Bool.and_eq_true] at hre
      obtain ⟨hco, hfa⟩ := hre
      obtain ⟨ys, m, e1, _, hlen, _, hg⟩ := DataW.trod_struct hd h
      obtain rfl : n = m := by omega
      rw [cellsOf_eq hT hTt] at hlen
      have main : ∀ (l' : List Field) (i off : Nat), fs.toList.drop i = l' -> contigT T ty.size off l' = true -> off <= ty.size -> ∃ xs, RepC T w xs (cs.drop off) /\ FitsFs (Fits T n) l' xs := by
        intro l'
        induction l' with
        | nil =>
          intro i off hdr hc ho
          have := Nat.eq_of_beq_eq_true hc
          refine ⟨[], ⟨by simp; omega, by simp, by simp⟩, rfl⟩
        | cons f l' ih =>
          intro i off hdr hc ho
          simp only [contigT, Bool.and_eq_true] at hc
          obtain ⟨hc1, hc2⟩ := hc
          have hc1 := Nat.eq_of_beq_eq_true hc1
          have hfi : fs.toList[i]? = some f := by
            have : (fs.toList.drop i)[0]? = some f := by rw [hdr]; rfl
            simpa using this
          have hfm : f ∈ fs.toList := List.mem_of_getElem? hfi
          have h1 := List.all_eq_true.1 hfa f hfm
          have hfl : f.type ∈ l := by
            have := List.all_eq_true.1 hlead f hfm
            obtain ⟨z, hz, hb⟩ := List.any_eq_true.1 this
            have := Nat.eq_of_beq_eq_true hb
            rw [this]; exact hz
          cases hTf : T f.type with
          | none => rw [hTf] at h1; simp at h1
          | some tf =>
          have h2 := hg i f (by simpa using hfi)
          rw [cellsOf_eq hT hTf, hc1] at h2
          have hle : off + tf.size <= ty.size := by
            have : ∀ (l' : List Field) (off : Nat), contigT T ty.size off l' = true -> off <= ty.size := by
              intro l'
              induction l' with
              | nil => intro off hc; have := Nat.eq_of_beq_eq_true hc; omega
              | cons f l' ih => intro off hc; simp only [contigT, Bool.and_eq_true] at hc; have := ih _ hc.2; omega
            have := this l' _ hc2
            rw [sizes_eq hTf] at this
            exact this
          have hys : i < ys.length := by
            cases hyi : ys[i]? with
            | none =>
              have hfi2 : i < fs.size := by
                have := (List.getElem?_eq_some_iff.1 hfi).1
                simpa using this
              have : ys.length = fs.size := by assumption
              rw [this]; exact hfi2
            | some y => exact (List.getElem?_eq_some_iff.1 hyi).1
          rw [List.getElem?_eq_getElem hys] at h2
          obtain ⟨xs, c1, c2, _⟩ := trod_rep hT hl n f.type _ _ hfl h2
          obtain ⟨rs, d1, d2⟩ := ih (i + 1) (off + sizes T f.type) (by rw [List.drop_add_one_eq_tail_drop, hdr]; rfl) hc2 (by rw [sizes_eq hTf]; exact hle)
          refine ⟨xs ++ rs, ?_, xs, rs, rfl, c2, d2⟩
          have := c1.append d1
          rw [sizes_eq hTf, ← List.drop_drop, List.take_append_drop] at this
          exact this
      obtain ⟨xs, c1, c2⟩ := main fs.toList 0 0 rfl hco (Nat.zero_le _)
      exact ⟨xs, by simpa using c1, c2, fun ty' e => by cases e; exact hlen⟩
theorem arg_rep (hT : TypesOK P T) {l : List TypeId} (hl : closedT T l = true) {t : TypeId} (ht : t ∈ l) {v : Value} {d : DataW H} {ps : List MemPlace} (hrow : ∀ ty, T t = some ty -> (ty.row = true -> ∃ cs, v = .agg cs) /\ (ty.row = false -> v.cells = #[v]))
    (hd : DataW.Trod enc P w base spare held t v d ps) : ∃ n x, Fits T n t (V.cells x) /\ RepV (immG T) w x v /\ ∀ ty, T t = some ty -> x = mkEl ty.row (V.cells x) := by
  obtain ⟨fuel, hf⟩ := hd
  obtain ⟨xs, h1, h2, h3⟩ := trod_rep hT hl fuel t _ _ ht hf
  cases hTt : T t with
  | none => cases fuel <;> simp [Fits, hTt] at h2
  | some ty =>
  have h3 := h3 ty hTt
  obtain ⟨r1, r2⟩ := hrow ty hTt
  cases hr : ty.row with
  | true =>
    obtain ⟨cs, rfl⟩ := r1 hr
    refine ⟨fuel, .agg xs, h2, .agg xs cs (by rw [h1.len]; rfl) fun k y hk => ?_, fun ty' e => by cases e; rw [hr]; rfl⟩
    have := h1.rep k y hk
    simpa [Value.cells, List.getD_eq_getElem?_getD, Array.getD_eq_getD_getElem?] using this
  | false =>
    have hv := r2 hr
    rw [hv] at h1 h3
    have hl1 := h1.len
    simp at hl1
    match xs, hl1 with
    | [x], _ =>
      have ho := h1.one x (by simp)
      have hc : V.cells x = [x] := by cases x <;> first | rfl | cases ho
      exact ⟨fuel, x, by rw [hc]; exact h2, by simpa using h1.rep 0 x rfl, fun ty' e => by cases e; rw [hr, hc]; rfl⟩
end
end Go.Proofs.Ytilfphdeacogmaa.En

/- The engine, part 2s: rows: arguments that came in, what a law's function leaves. -/
namespace Go.Proofs.Ytilfphdeacogmaa.En
open Go Go.RowKit Go.WideShapes
set_option linter.unusedVariables false
theorem own : ownKnob Try.prog.godebug = none := by kernel_rfl
theorem laidOut : laidOutB Try.prog = true := by kernel_rfl
section
variable {P : Program} {T : TypeId -> Option Ty} {f : FuncId} {w : World}
def noEnv : Env := { d := 0, dom := fun _ _ => False }
def Globs (w : World) : Prop := ∀ b ∈ globD, ∃ x, w.heap[b]? = some x /\ GlobV b x
theorem imm_sk (h : Globs w) : SzOK T (immG T) w := ⟨rfl, fun b hb => ⟨rfl, h b hb⟩⟩
theorem walk_of {ds : List D} (hp : PureRet P T f ds [.v (.bool true) .no]) {us : List Value} (hr : RepDs noEnv (immG T) w [] ds us) (hgl : Globs w := by intro _ h; cases h) :
    Calls P f us.toArray w fun e w' => e = .returned (.bool true) /\ Below w.heap.size w w' := by
  refine (hp noEnv (immG T) w us (imm_sk hgl) hr).mono ?_
  rintro e w' ⟨us', g', rfl, h1, h2⟩
  obtain ⟨l, hr'⟩ := h1 noEnv
  match us', l with
  | [u], _ =>
  have := hr' 0 _ rfl
  simp only [List.getD_cons_zero] at this
  cases this with
  | v x a v h ha =>
  cases h
  exact ⟨rfl, ⟨h2.grows.os, h2.grows.tape, h2.grows.output, h2.grows.size, h2.grows.old⟩⟩
theorem reps_nil : RepDs noEnv (immG T) w [] [] [] := ⟨rfl, fun k y h => by simp at h⟩
theorem reps_cons {d : D} {u : Value} {ds : List D} {us : List Value} (h : RepD noEnv (immG T) w [] d u) (hs : RepDs noEnv (immG T) w [] ds us) : RepDs noEnv (immG T) w [] (d :: ds) (u :: us) :=
  ⟨by simp [hs.1], fun k y hk => by
    rcases k with _ | k
    . simp at hk; subst hk; exact h
    . simpa using hs.2 k y (by simpa using hk)⟩
theorem rep_v {x : V} {u : Value} (h : RepV (immG T) w x u) : RepD noEnv (immG T) w [] (.v x .no) u := .v _ _ _ h trivial
variable {H : Type} {enc : TypeId × Value -> H} {base : Nat} {spare : Nat -> Bool} {held : Bool} {r : Reach} {b0 : Nat} {t : TypeId} {v : Value} {d : DataW H} {ps : List MemPlace} {l : List TypeId}
theorem row_of (hT : TypesOK P T) {desc : TypeDesc} (ht : P.underlying t = some desc) {ty : Ty} (h : T t = some ty) : ty.desc = desc := by
  have := (hT t ty h).desc
  rw [ht] at this
  injection this with this
  exact this.symm
theorem cells_self {x : V} (h : x = mkEl false (V.cells x)) : V.cells x = [x] := by
  cases x with
  | agg cs =>
    exfalso
    simp only [V.cells, mkEl] at h
    cases cs with
    | nil => simp at h
    | cons c r =>
      have h' : V.agg (c :: r) = c := h
      have : _root_.SizeOf.sizeOf (V.agg (c :: r)) = _root_.SizeOf.sizeOf c := by rw [h']
      simp at this
      omega
  | _ => rfl
theorem fits_self (hT : TypesOK P T) {desc : TypeDesc} (ht : P.underlying t = some desc) (hnr : ∀ ty : Ty, ty.desc = desc -> ty.row = false) {n : Nat} {x : V} (h1 : Fits T n t (V.cells x)) (h3 : ∀ ty, T t = some ty -> x = mkEl ty.row (V.cells x)) : Fits T n t [x] := by
  cases hTt : T t with
  | none => cases n <;> simp [Fits, hTt] at h1
  | some ty =>
    have := h3 ty hTt
    rw [hnr ty (row_of hT ht hTt)] at this
    rw [← cells_self this]; exact h1
theorem arg_slice (hT : TypesOK P T) (hl : closedT T l = true) (hm : t ∈ l) {e : TypeId} (ht : P.underlying t = some (.slice e)) (hv : Value.okWide P w r b0 t v) (hd : DataW.Trod enc P w base spare held t v d ps) :
    ∃ n x, Fits T n t [x] /\ RepV (immG T) w x v := by
  obtain ⟨A, n, c, rfl⟩ := okWide_slice ht hv
  obtain ⟨n, x, h1, h2, h3⟩ := arg_rep hT hl hm (fun ty hty => ⟨fun hr => (by rw [Ty.row, row_of hT ht hty] at hr; cases hr), fun _ => rfl⟩) hd
  exact ⟨n, x, fits_self hT ht (fun ty e => by rw [Ty.row, e]) h1 h3, h2⟩
theorem arg_int (hT : TypesOK P T) (hl : closedT T l = true) (hm : t ∈ l) {k : IntKind} (ht : P.underlying t = some (.int k)) (hv : Value.okWide P w r b0 t v) (hd : DataW.Trod enc P w base spare held t v d ps) :
    ∃ n x, Fits T n t [x] /\ RepV (immG T) w x v := by
  obtain ⟨i, rfl⟩ := okWide_int ht hv
  obtain ⟨n, x, h1, h2, h3⟩ := arg_rep hT hl hm (fun ty hty => ⟨fun hr => (by rw [Ty.row, row_of hT ht hty] at hr; cases hr), fun _ => rfl⟩) hd
  exact ⟨n, x, fits_self hT ht (fun ty e => by rw [Ty.row, e]) h1 h3, h2⟩
theorem fits_int {k : IntKind} {ty : Ty} (h : T t = some ty) (hd : ty.desc = .int k) {n : Nat} {xs : List V} (hf : Fits T n t xs) : ∃ i, xs = [.int k i] /\ k.min <= i /\ i <= k.max := by
  cases n with
  | zero => cases hf
  | succ n => unfold Fits at hf; rw [h] at hf; simp only [hd] at hf; exact hf
theorem fits_bytes {e e' : TypeId} {ty : Ty} (h : T t = some ty) (hd : ty.desc = .slice e) (hc : ty.cks = [.bytes e']) {n : Nat} {xs : List V} (hf : Fits T n t xs) : ∃ s, xs = [.bytes s] /\ s.length <= maxLen := by
  cases n with
  | zero => cases hf
  | succ n => unfold Fits at hf; rw [h] at hf; simp only [hd, hc] at hf; exact hf
theorem fits_slice {e e' : TypeId} {ty te : Ty} (h : T t = some ty) (hd : ty.desc = .slice e) (hc : ty.cks = [.slc e']) (he : T e = some te) {n : Nat} {xs : List V} (hf : Fits T n t xs) :
    ∃ m ys, n = m + 1 /\ xs = [.sl e ys] /\ ys.length <= maxLen /\ ∀ y ∈ ys, ∃ cs, y = mkEl te.row cs /\ Fits T m e cs := by
  cases n with
  | zero => cases hf
  | succ n =>
    unfold Fits at hf; rw [h] at hf; simp only [hd, hc] at hf
    obtain ⟨rfl, ys, h1, h2, h3⟩ := hf
    refine ⟨n, ys, rfl, h1, h2, fun y hy => ?_⟩
    obtain ⟨te', cs, h4, h5, h6⟩ := h3 y hy
    rw [he] at h4
    injection h4 with h4
    subst h4
    exact ⟨cs, h5, h6⟩
theorem fits_struct {fs : Array Field} {ty : Ty} (h : T t = some ty) (hd : ty.desc = .struct fs) {n : Nat} {xs : List V} (hf : Fits T n t xs) : ∃ m, n = m + 1 /\ FitsFs (Fits T m) fs.toList xs := by
  cases n with
  | zero => cases hf
  | succ n => unfold Fits at hf; rw [h] at hf; simp only [hd] at hf; exact ⟨n, rfl, hf⟩
end
end Go.Proofs.Ytilfphdeacogmaa.En

/- What the arguments of chapter 08 read as. -/
namespace Go.Proofs.Ytilfphdeacogmaa.En
open Go Go.RowKit
set_option linter.unusedVariables false
theorem T_int : T 3 = some ty3 := by kernel_rfl
theorem T_bytes : T 27 = some ty27 := by kernel_rfl
theorem T_op : T 38 = some ty38 := by kernel_rfl
theorem T_ops : T 22 = some ty22 := by kernel_rfl
theorem ops_of (n : Nat) : ∀ (ys : List V), (∀ y ∈ ys, ∃ cs, y = mkEl true cs /\ Fits T n 38 cs) -> ∃ l : List OpP, ys = opE l
  | [], _ => ⟨[], rfl⟩
  | y :: ys, h => by
    obtain ⟨l, h1⟩ := ops_of n ys fun z hz => h z (List.mem_cons_of_mem _ hz)
    obtain ⟨cs, rfl, hc⟩ := h y (by simp)
    obtain ⟨m, rfl, a, r1, rfl, ha, b, r2, rfl, hb, c, r3, rfl, hcc, rfl⟩ := fits_struct T_op rfl hc
    obtain ⟨i, rfl, _⟩ := fits_int T_int rfl ha
    obtain ⟨k, rfl, _⟩ := fits_int T_int rfl hb
    obtain ⟨s, rfl, _⟩ := fits_bytes T_bytes rfl rfl hcc
    exact ⟨⟨i, k, s⟩ :: l, by rw [h1]; rfl⟩
theorem ops_arg {n : Nat} {x : V} (h : Fits T n 22 [x]) : ∃ l : List OpP, x = .sl 38 (opE l) := by
  obtain ⟨m, ys, rfl, e, h1, h2⟩ := fits_slice T_ops rfl rfl T_op h
  obtain ⟨l, rfl⟩ := ops_of m ys h2
  injection e with e _
  exact ⟨l, e⟩
theorem int_arg {n : Nat} {x : V} (h : Fits T n 3 [x]) : ∃ i : Int, x = .int .i64 i := by
  obtain ⟨i, e, _⟩ := fits_int T_int rfl h
  injection e with e _
  exact ⟨i, e⟩
def argTys : List TypeId := [38, 22, 3, 4, 27, 5]
theorem argTys_ok : closedT T argTys = true := by kernel_rfl
end Go.Proofs.Ytilfphdeacogmaa.En
